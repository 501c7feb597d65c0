import Derived.Test.YtfbbagnpdfafjaaOps
import Derived.Test.YtfbbagnpdfafjaaTab
import Derived.Deep.Quiet
namespace Go.Proofs.Ytfbbagnpdfafjaa
def sumTo (f : Int → Int) : Nat → Int
 | 0 => 0
 | n + 1 => sumTo f n + f n
def sm (f : Int → Int) (k : Int) : Int := sumTo f k.toNat
theorem sm_neg (f : Int → Int) {k : Int} (h : k ≤ 0) : sm f k = 0 := by
 unfold sm; rw [show k.toNat = 0 by omega]; rfl
theorem sm_succ (f : Int → Int) {k : Int} (h : 0 ≤ k) : sm f (k + 1) = sm f k + f k := by
 unfold sm
 rw [show (k + 1).toNat = k.toNat + 1 by omega]
 simp only [sumTo, Int.toNat_of_nonneg h]
theorem sm_ind {f : Int → Int} {p : Int → Int → Prop} (h0 : p 0 0) (hs : ∀ k : Int, 0 ≤ k → ∀ s, p k s → p (k + 1) (s + f k)) {k : Int} (hk : 0 ≤ k) : p k (sm f k) := by
 obtain ⟨n, rfl⟩ := Int.eq_ofNat_of_zero_le hk
 induction n with
 | zero => exact h0
 | succ n ih =>
  have e : ((n + 1 : Nat) : Int) = (n : Int) + 1 := by omega
  rw [e, sm_succ f (by omega)]
  exact hs n (by omega) _ (ih (by omega))
theorem sm_congr {f g : Int → Int} {k : Int} (h : ∀ i : Int, 0 ≤ i → i < k → f i = g i) : sm f k = sm g k := by
 unfold sm
 have key : ∀ n : Nat, (n : Int) ≤ k → sumTo f n = sumTo g n := by
  intro n
  induction n with
  | zero => intro _; rfl
  | succ n ih => intro hn; simp only [sumTo]; rw [ih (by omega), h n (by omega) (by omega)]
 by_cases hk : 0 ≤ k
 ·exact key _ (by omega)
 ·rw [show k.toNat = 0 by omega]; rfl
theorem sm_le {f g : Int → Int} {k : Int} (h : ∀ i : Int, 0 ≤ i → i < k → f i ≤ g i) : sm f k ≤ sm g k := by
 unfold sm
 have key : ∀ n : Nat, (n : Int) ≤ k → sumTo f n ≤ sumTo g n := by
  intro n
  induction n with
  | zero => intro _; exact Int.le_refl _
  | succ n ih => intro hn; simp only [sumTo]; have := ih (by omega); have := h n (by omega) (by omega); omega
 by_cases hk : 0 ≤ k
 ·exact key _ (by omega)
 ·rw [show k.toNat = 0 by omega]; exact Int.le_refl _
theorem sm_const (c : Int) {k : Int} (hk : 0 ≤ k) : sm (fun _ => c) k = k * c := by
 obtain ⟨n, rfl⟩ := Int.eq_ofNat_of_zero_le hk
 induction n with
 | zero => simp [sm, sumTo]
 | succ n ih =>
  have e : ((n + 1 : Nat) : Int) = (n : Int) + 1 := by omega
  rw [e, sm_succ _ (by omega), ih (by omega), Int.add_mul, Int.one_mul]
theorem sm_bound {f : Int → Int} {k : Int} (M : Int) (hk : 0 ≤ k) (h : ∀ i : Int, 0 ≤ i → i < k → f i ≤ M) : sm f k ≤ k * M := by
 rw [← sm_const M hk]; exact sm_le h
theorem sm_bound' {f : Int → Int} {k : Int} (M : Int) (hk : 0 ≤ k) (h : ∀ i : Int, 0 ≤ i → i < k → M ≤ f i) : k * M ≤ sm f k := by
 rw [← sm_const M hk]; exact sm_le h
theorem sm_nonneg {f : Int → Int} {k : Int} (h : ∀ i : Int, 0 ≤ i → i < k → 0 ≤ f i) : 0 ≤ sm f k := by
 by_cases hk : 0 ≤ k
 ·have := sm_bound' 0 hk h; simpa using this
 ·rw [sm_neg f (by omega)]; exact Int.le_refl _
theorem sm_add (f g : Int → Int) (k : Int) : sm (fun i => f i + g i) k = sm f k + sm g k := by
 unfold sm
 induction k.toNat with
 | zero => rfl
 | succ n ih => simp only [sumTo]; omega
theorem sm_sub (f g : Int → Int) (k : Int) : sm (fun i => f i - g i) k = sm f k - sm g k := by
 unfold sm
 induction k.toNat with
 | zero => rfl
 | succ n ih => simp only [sumTo]; omega
theorem sm_mul (c : Int) (f : Int → Int) (k : Int) : sm (fun i => c * f i) k = c * sm f k := by
 unfold sm
 induction k.toNat with
 | zero => simp [sumTo]
 | succ n ih => simp only [sumTo]; rw [ih, Int.mul_add]
theorem sm_upd (f : Int → Int) (i x : Int) {k : Int} (h0 : 0 ≤ i) (hi : i < k) : sm (upd f i x) k = sm f k - f i + x := by
 obtain ⟨n, rfl⟩ := Int.eq_ofNat_of_zero_le (show 0 ≤ k by omega)
 induction n with
 | zero => omega
 | succ n ih =>
  have e : ((n + 1 : Nat) : Int) = (n : Int) + 1 := by omega
  rw [e, sm_succ _ (by omega), sm_succ _ (by omega)]
  by_cases hin : i < n
  ·rw [ih hin, upd_ne _ _ (by omega)]; omega
  ·have : i = n := by omega
   subst this
   rw [upd_same, sm_congr (g := f) (fun j _ hj => upd_ne _ _ (by omega))]; omega
theorem sm_pos {f : Int → Int} {k : Int} (h : ∀ i : Int, 0 ≤ i → i < k → 0 ≤ f i) (i : Int) (h0 : 0 ≤ i) (hi : i < k) : f i ≤ sm f k := by
 have e := sm_upd f i 0 h0 hi
 have : 0 ≤ sm (upd f i 0) k := sm_nonneg fun j a b => by
  unfold upd; split
  ·exact Int.le_refl _
  ·exact h j a b
 omega
theorem mulb {a b A B : Int} (ha : 0 ≤ a) (ha2 : a ≤ A) (hb : 0 ≤ b) (hb2 : b ≤ B) : 0 ≤ a * b ∧ a * b ≤ A * B :=
 ⟨Int.mul_nonneg ha hb, Int.mul_le_mul ha2 hb2 hb (by omega)⟩
end Go.Proofs.Ytfbbagnpdfafjaa
set_option maxRecDepth 100000
namespace Go.Proofs.Ytfbbagnpdfafjaa
open Go.RowKit Go.Proofs
def Bf (r : Int → Int) (a b : Int) : Prop := r b < r a ∨ r a = r b ∧ a < b
theorem Bf.trans {r : Int → Int} {a b c : Int} (h : Bf r a b) (g : Bf r b c) : Bf r a c := by unfold Bf at *; omega
theorem Bf.asymm {r : Int → Int} {a b : Int} (h : Bf r a b) (g : Bf r b a) : False := by unfold Bf at *; omega
theorem Bf.ne {r : Int → Int} {a b : Int} (h : Bf r a b) : a ≠ b := fun e => by subst e; exact h.asymm h
structure Shr (total : Int) (n : Nat) (W out : Int → Int) : Prop where
 sum : sm out n = if sm W n = 0 then 0 else total
 one : ∀ i : Int, 0 ≤ i → i < n → out i = total * W i / sm W n ∨ out i = total * W i / sm W n + 1
 top : ∀ i j : Int, 0 ≤ i → i < n → 0 ≤ j → j < n → out i = total * W i / sm W n + 1 → out j = total * W j / sm W n → Bf (fun i => total * W i % sm W n) i j
theorem Shr.uniq {total : Int} {n : Nat} {W o1 o2 : Int → Int} (h1 : Shr total n W o1) (h2 : Shr total n W o2) : ∀ i : Int, 0 ≤ i → i < n → o1 i = o2 i := by
 have key : ∀ {a b : Int → Int}, Shr total n W a → Shr total n W b → ∀ i : Int, 0 ≤ i → i < n → a i ≤ b i := fun {a b} ha hb i i0 i1 => by
  refine Classical.byContradiction fun hx => ?_
  have e : sm a n = sm b n := by rw [ha.sum, hb.sum]
  have hle : ∀ j : Int, 0 ≤ j → j < n → 0 ≤ a j - b j := fun j j0 j1 => by
   refine Classical.byContradiction fun hy => ?_
   have p1 := ha.one i i0 i1
   have p2 := hb.one i i0 i1
   have p3 := ha.one j j0 j1
   have p4 := hb.one j j0 j1
   exact (ha.top i j i0 i1 j0 j1 (by omega) (by omega)).asymm (hb.top j i j0 j1 i0 i1 (by omega) (by omega))
  have h3 := sm_pos hle i i0 i1
  rw [sm_sub] at h3
  omega
 intro i i0 i1
 have := key h1 h2 i i0 i1
 have := key h2 h1 i i0 i1
 omega
theorem Shr.congr {total : Int} {n : Nat} {W W' out out' : Int → Int} (h : Shr total n W out) (e : ∀ i : Int, 0 ≤ i → i < n → W i = W' i) (e2 : ∀ i : Int, 0 ≤ i → i < n → out i = out' i) : Shr total n W' out' := by
 have es : sm W' n = sm W n := sm_congr fun i i0 i1 => (e i i0 i1).symm
 have eo : sm out' n = sm out n := sm_congr fun i i0 i1 => (e2 i i0 i1).symm
 refine ⟨by rw [eo, es]; exact h.sum, fun i i0 i1 => by rw [es, ← e i i0 i1, ← e2 i i0 i1]; exact h.one i i0 i1, fun i j i0 i1 j0 j1 => ?_⟩
 rw [es, ← e i i0 i1, ← e j j0 j1, ← e2 i i0 i1, ← e2 j j0 j1]
 intro a b
 have := h.top i j i0 i1 j0 j1 a b
 unfold Bf at this ⊢
 dsimp only at this ⊢
 rw [← e i i0 i1, ← e j j0 j1]
 exact this
def Pm (g : Int → Int) (m : Int) : Prop := (∀ a : Int, 0 ≤ a → a < m → 0 ≤ g a ∧ g a < m) ∧ ∀ v : Int, 0 ≤ v → v < m → ∃ a : Int, 0 ≤ a ∧ a < m ∧ g a = v
theorem Pm.swap {g : Int → Int} {m j : Int} (h : Pm g m) (j1 : 1 ≤ j) (j2 : j < m) : Pm (upd (upd g j (g (j - 1))) (j - 1) (g j)) m := by
 obtain ⟨h1, h2⟩ := h
 have at1 : ∀ a, upd (upd g j (g (j - 1))) (j - 1) (g j) a = if a = j - 1 then g j else if a = j then g (j - 1) else g a := fun a => rfl
 refine ⟨fun a a0 a1 => ?_, fun v v0 v1 => ?_⟩
 ·rw [at1]
  split
  ·exact h1 j (by omega) j2
  ·split
   ·exact h1 (j - 1) (by omega) (by omega)
   ·exact h1 a a0 a1
 ·obtain ⟨a, a0, a1, rfl⟩ := h2 v v0 v1
  by_cases e1 : a = j
  ·exact ⟨j - 1, by omega, by omega, by rw [at1, if_pos rfl, e1]⟩
  ·by_cases e2 : a = j - 1
   ·exact ⟨j, by omega, j2, by rw [at1, if_neg (by omega), if_pos rfl, e2]⟩
   ·exact ⟨a, a0, a1, by rw [at1, if_neg e2, if_neg e1]⟩
structure Srt (r g : Int → Int) (m : Int) : Prop where
 pm : Pm g m
 ord : ∀ a b : Int, 0 ≤ a → a < b → b < m → Bf r (g a) (g b)
structure Ins (r g : Int → Int) (i j : Int) : Prop where
 pm : Pm g (i + 1)
 at_ : g j = i
 rng : 0 ≤ j ∧ j ≤ i
 ord : ∀ a b : Int, 0 ≤ a → a < b → b ≤ i → a ≠ j → b ≠ j → Bf r (g a) (g b)
 up : ∀ b : Int, j < b → b ≤ i → Bf r i (g b)
 inj : ∀ a : Int, 0 ≤ a → a ≤ i → a ≠ j → g a ≠ i
theorem Ins.init {r g : Int → Int} {i : Int} (i0 : 0 ≤ i) (h : Srt r g i) (hg : g i = i) : Ins r g i i := by
 refine ⟨⟨fun a a0 a1 => ?_, fun v v0 v1 => ?_⟩, hg, by omega, fun a b a0 ab bi aj bj => h.ord a b a0 ab (by omega), fun b h1 h2 => by omega, fun a a0 ai aj => by have := h.pm.1 a a0 (by omega); omega⟩
 ·by_cases e : a = i
  ·rw [e, hg]; omega
  ·have := h.pm.1 a a0 (by omega); omega
 ·by_cases e : v = i
  ·exact ⟨i, i0, by omega, by rw [hg, e]⟩
  ·obtain ⟨a, a0, a1, e2⟩ := h.pm.2 v v0 (by omega)
   exact ⟨a, a0, by omega, e2⟩
theorem Ins.step {r g : Int → Int} {i j : Int} (h : Ins r g i j) (j1 : 1 ≤ j) (c : r (g (j - 1)) < r (g j)) : Ins r (upd (upd g j (g (j - 1))) (j - 1) (g j)) i (j - 1) := by
 have hr := h.rng
 have at1 : ∀ a, upd (upd g j (g (j - 1))) (j - 1) (g j) a = if a = j - 1 then g j else if a = j then g (j - 1) else g a := fun a => rfl
 refine ⟨h.pm.swap j1 (by omega), by rw [at1, if_pos rfl]; exact h.at_, by omega, fun a b a0 ab bi aj bj => ?_, fun b hb bi => ?_, fun a a0 ai aj => ?_⟩
 ·rw [at1, at1, if_neg aj, if_neg bj]
  by_cases e1 : a = j
  ·rw [if_pos e1, if_neg (by omega)]
   exact h.ord (j - 1) b (by omega) (by omega) bi (by omega) (by omega)
  ·by_cases e2 : b = j
   ·rw [if_neg e1, if_pos e2]
    exact h.ord a (j - 1) a0 (by omega) (by omega) e1 (by omega)
   ·rw [if_neg e1, if_neg e2]
    exact h.ord a b a0 ab bi e1 e2
 ·rw [at1, if_neg (by omega)]
  by_cases e : b = j
  ·rw [if_pos e]
   rw [h.at_] at c
   exact .inl c
  ·rw [if_neg e]
   exact h.up b (by omega) bi
 ·rw [at1, if_neg aj]
  split
  ·exact h.inj (j - 1) (by omega) (by omega) (by omega)
  ·exact h.inj a a0 ai (by omega)
theorem Ins.done {r g : Int → Int} {i j : Int} (h : Ins r g i j) (c : ¬ (0 < j ∧ r (g (j - 1)) < r (g j))) : Srt r g (i + 1) := by
 have hr := h.rng
 have low : ∀ a : Int, 0 ≤ a → a < j → Bf r (g a) i := fun a a0 aj => by
  have hj : Bf r (g (j - 1)) i := by
   rw [h.at_] at c
   have h1 := h.pm.1 (j - 1) (by omega) (by omega)
   have h2 : g (j - 1) ≠ i := h.inj (j - 1) (by omega) (by omega) (by omega)
   unfold Bf
   omega
  by_cases e : a = j - 1
  ·rw [e]; exact hj
  ·exact (h.ord a (j - 1) a0 (by omega) (by omega) (by omega) (by omega)).trans hj
 refine ⟨h.pm, fun a b a0 ab bi => ?_⟩
 by_cases e1 : a = j
 ·rw [e1, h.at_]; exact h.up b (by omega) (by omega)
 ·by_cases e2 : b = j
  ·rw [e2, h.at_]; exact low a a0 (by omega)
  ·exact h.ord a b a0 ab (by omega) e1 e2
theorem Srt.inj {r g : Int → Int} {m : Int} (h : Srt r g m) {a b : Int} (a0 : 0 ≤ a) (a1 : a < m) (b0 : 0 ≤ b) (b1 : b < m) (e : g a = g b) : a = b := by
 refine Classical.byContradiction fun hx => ?_
 by_cases c : a < b
 ·exact (h.ord a b a0 c b1).ne e
 ·exact (h.ord b a b0 (by omega) a1).ne e.symm
structure Giv (q g : Int → Int) (n k : Int) (out : Int → Int) : Prop where
 in_ : ∀ a : Int, 0 ≤ a → a < k → out (g a) = q (g a) + 1
 no : ∀ a : Int, k ≤ a → a < n → out (g a) = q (g a)
 sum : sm out n = sm q n + k
theorem Giv.init {q g out : Int → Int} {n : Int} (e : ∀ i : Int, 0 ≤ i → i < n → out i = q i) (h : Pm g n) : Giv q g n 0 out :=
 ⟨fun a a0 a1 => by omega, fun a a0 a1 => by have := h.1 a a0 a1; exact e _ this.1 this.2, by rw [sm_congr e]; omega⟩
theorem Giv.step {r q g out : Int → Int} {n k : Int} (h : Giv q g n k out) (hs : Srt r g n) (k0 : 0 ≤ k) (k1 : k < n) : Giv q g n (k + 1) (upd out (g k) (out (g k) + 1)) := by
 have hk := hs.pm.1 k k0 k1
 refine ⟨fun a a0 a1 => ?_, fun a a0 a1 => ?_, ?_⟩
 ·by_cases e : a = k
  ·rw [e, upd_same, h.no k (by omega) k1]
  ·have := h.in_ a a0 (by omega)
   rw [upd_ne _ _ (fun e2 => e (hs.inj a0 (by omega) k0 k1 e2))]
   exact this
 ·rw [upd_ne _ _ (fun e2 => by have := hs.inj (by omega) a1 k0 k1 e2; omega)]
  exact h.no a (by omega) a1
 ·rw [sm_upd out (g k) _ hk.1 hk.2, h.sum]
  omega
theorem Giv.shr {total : Int} {n : Nat} {W g out : Int → Int} {left : Int} (hs : Srt (fun i => total * W i % sm W n) g n) (hS : sm W n ≠ 0) (hl : left = total - sm (fun i => total * W i / sm W n) n) (l0 : 0 ≤ left) (h : Giv (fun i => total * W i / sm W n) g n left out) : Shr total n W out := by
 refine ⟨by rw [if_neg hS, h.sum, hl]; omega, fun i i0 i1 => ?_, fun i j i0 i1 j0 j1 ei ej => ?_⟩
 ·obtain ⟨a, a0, a1, rfl⟩ := hs.pm.2 i i0 i1
  by_cases c : a < left
  ·exact .inr (h.in_ a a0 c)
  ·exact .inl (h.no a (by omega) a1)
 ·obtain ⟨a, a0, a1, rfl⟩ := hs.pm.2 i i0 i1
  obtain ⟨b, b0, b1, rfl⟩ := hs.pm.2 j j0 j1
  refine hs.ord a b a0 ?_ b1
  by_cases c : a < left
  ·by_cases c2 : b < left
   ·have := h.in_ b b0 c2
    omega
   ·omega
  ·have := h.no a (by omega) a1
   omega
theorem left_rng {total : Int} {n : Nat} {W : Int → Int} (hW : ∀ i : Int, 0 ≤ i → i < n → 0 ≤ W i) (hS : 0 < sm W n) (ht : 0 ≤ total) : 0 ≤ total - sm (fun i => total * W i / sm W n) n ∧ total - sm (fun i => total * W i / sm W n) n < n := by
 have e : total * sm W n = sm W n * sm (fun i => total * W i / sm W n) n + sm (fun i => total * W i % sm W n) n := by
  rw [← sm_mul, ← sm_mul, ← sm_add]
  exact sm_congr fun i i0 i1 => (Int.mul_ediv_add_emod _ _).symm
 have h1 : 0 ≤ sm (fun i => total * W i % sm W n) n := sm_nonneg fun i i0 i1 => Int.emod_nonneg _ (by omega)
 have hn : (0 : Int) < n := by
  refine Classical.byContradiction fun hx => ?_
  rw [sm_neg W (by omega)] at hS
  omega
 have h2 : sm (fun i => total * W i % sm W n) n ≤ n * (sm W n - 1) := sm_bound _ (by omega) fun i i0 i1 => by have := Int.emod_lt_of_pos (total * W i) hS; omega
 generalize sm (fun i => total * W i / sm W n) n = Q at *
 generalize sm (fun i => total * W i % sm W n) n = R at *
 generalize sm W n = S at *
 have e2 : (total - Q) * S = R := by rw [Int.sub_mul, Int.mul_comm Q S]; omega
 constructor
 ·refine Classical.byContradiction fun hx => ?_
  have := Int.mul_le_mul_of_nonneg_right (show total - Q ≤ -1 by omega) (show 0 ≤ S by omega)
  omega
 ·refine Classical.byContradiction fun hx => ?_
  have := Int.mul_le_mul_of_nonneg_right (show (n : Int) ≤ total - Q by omega) (show 0 ≤ S by omega)
  rw [e2] at this
  rw [Int.mul_sub] at h2
  omega
end Go.Proofs.Ytfbbagnpdfafjaa
namespace Go.Proofs.Ytfbbagnpdfafjaa
open Go.RowKit
section
variable {P : Program} {f N : Nat} {k : List Item} {F : Fr} {w : World} {R : Ending → World → Prop} {ops : Array Oper} {o : Oper} {rest : List Oper} {C : World → Prop}
def RKl (P : Program) (f N : Nat) (ops : Array Oper) (C : World → Prop) (l : List Oper) (k : List Item) (F : Fr) (R : Ending → World → Prop) : Prop :=
 ∀ a, Holds N F a → wpQuiet P ops C (fun a' => ∀ w', C w' → RunA P f k a' w' R) l a
theorem run_class {id : Nat} {l : List Oper} (C : World → Prop) (h0 : C w.drew) (hm : P.follows .mixedOrders = true) (hB : Region.lexB .any l.toArray = true) (h : RKl P f N l.toArray C l k F R) : Run P f N (.code (.region id l.toArray true) :: k) F w R :=
 fun a ha => runA_of_wp (wp_region_quiet (C := C) hm hB h0 (by exact h a ha))
theorem rk_nil (h : ∀ w', C w' → Run P f N k F w' R) : RKl P f N ops C [] k F R := fun a ha => wpQuiet_nil fun w' hw' => h w' hw' a ha
theorem rk_v {d : Nat} {v : Value} (hg : o.guard = none) (hd : o.dst = some d) (hN : Nat.blt d N = true) (hv : ∀ w', C w' → OpV P N o F w' v) (h : RKl P f N ops C rest k ((d, v) :: F) R) : RKl P f N ops C (o :: rest) k F R := by
 intro a ha
 refine wpQuiet_step fun K hK => ?_
 rw [if_pos (by simp [Region.wanted, hg])]
 refine ⟨v, fun w' hw' => ?_, ?_⟩
 ·unfold Oper.quietAt
  rw [hv w' hw' a ha]
  exact ⟨rfl, rfl⟩
 ·rw [hd]
  exact hK _ (h _ (ha.put (lt_of_blt hN) v))
theorem rk_gv {j g d : Nat} {b : Bool} {v : Value} (hg : o.guard = some (j, b)) (hj : (ops[j]?).bind (·.dst) = some g) (hb : Fr.get F g = some (.bool b)) (hd : o.dst = some d) (hN : Nat.blt d N = true) (hv : ∀ w', C w' → OpV P N o F w' v)
  (h : RKl P f N ops C rest k ((d, v) :: F) R) : RKl P f N ops C (o :: rest) k F R := by
 intro a ha
 refine wpQuiet_step fun K hK => ?_
 rw [if_pos (by simp [Region.wanted, hg, yielded_of ha hj hb])]
 refine ⟨v, fun w' hw' => ?_, ?_⟩
 ·unfold Oper.quietAt
  rw [hv w' hw' a ha]
  exact ⟨rfl, rfl⟩
 ·rw [hd]
  exact hK _ (h _ (ha.put (lt_of_blt hN) v))
theorem rk_gskip {j g d : Nat} {b b' : Bool} (hg : o.guard = some (j, b)) (hj : (ops[j]?).bind (·.dst) = some g) (hb : Fr.get F g = some (.bool b')) (hne : (b' == b) = false) (hd : o.dst = some d) (hN : Nat.blt d N = true)
  (h : RKl P f N ops C rest k ((d, undef) :: F) R) : RKl P f N ops C (o :: rest) k F R := by
 intro a ha
 refine wpQuiet_step fun K hK => ?_
 have hw : Region.wanted o (yielded ops a.tmps) = false := by
  simp only [Region.wanted, hg, yielded_of ha hj hb]
  simpa using hne
 rw [if_neg (by simp [hw]), hd]
 exact hK _ (h _ (ha.put (lt_of_blt hN) undef))
theorem rk_gundef {j g d : Nat} {b : Bool} (hg : o.guard = some (j, b)) (hj : (ops[j]?).bind (·.dst) = some g) (hb : Fr.get F g = some undef) (hd : o.dst = some d) (hN : Nat.blt d N = true)
  (h : RKl P f N ops C rest k ((d, undef) :: F) R) : RKl P f N ops C (o :: rest) k F R := by
 intro a ha
 refine wpQuiet_step fun K hK => ?_
 have hw : Region.wanted o (yielded ops a.tmps) = false := by
  have e : yielded ops a.tmps j = none := by
   simp [yielded, hj, ha.at_ g _ hb]
   rfl
  simp [Region.wanted, hg, e]
 rw [if_neg (by simp [hw]), hd]
 exact hK _ (h _ (ha.put (lt_of_blt hN) undef))
theorem holds_at {a : Act} (ha : Holds N F a) {g : Nat} {v : Value} (h : Fr.get F g = some v) : Holds N ((g, v) :: F) a := ha.weaken fun i u hu => by
 unfold Fr.get at hu
 by_cases e' : i = g
 ·subst e'; simp at hu; rw [← hu]; exact h
 ·have : Nat.beq i g = false := nbeq e'
  simpa [this] using hu
theorem rk_split (g : Nat) {b : Bool} {l : List Oper} (hb : Fr.get F g = some (.bool b)) (ht : b = true → RKl P f N ops C l k ((g, .bool true) :: F) R) (hf : b = false → RKl P f N ops C l k ((g, .bool false) :: F) R) : RKl P f N ops C l k F R := by
 intro a ha
 cases hb' : b
 ·exact hf hb' a (holds_at ha (by rw [hb, hb']))
 ·exact ht hb' a (holds_at ha (by rw [hb, hb']))
theorem rk_split_dec (g : Nat) {p : Prop} {dp : Decidable p} {l : List Oper} (hb : Fr.get F g = some (.bool (decide p))) (ht : p → RKl P f N ops C l k ((g, .bool true) :: F) R) (hf : ¬ p → RKl P f N ops C l k ((g, .bool false) :: F) R) : RKl P f N ops C l k F R :=
 rk_split g hb (fun h => ht (of_decide_eq_true h)) (fun h => hf (of_decide_eq_false h))
theorem rl_noD (g : Nat) {p : Prop} {dp : Decidable p} {l : List Oper} (hb : Fr.get F g = some (.bool (decide p))) (h : ¬ p) (hf : RL P f N ops l k ((g, .bool false) :: F) w R) : RL P f N ops l k F w R :=
 rl_split_dec g hb (fun e => absurd e h) (fun _ => hf)
theorem rl_yesD (g : Nat) {p : Prop} {dp : Decidable p} {l : List Oper} (hb : Fr.get F g = some (.bool (decide p))) (h : p) (hf : RL P f N ops l k ((g, .bool true) :: F) w R) : RL P f N ops l k F w R :=
 rl_split_dec g hb (fun _ => hf) (fun e => absurd h e)
theorem rc_gop {S : World → Prop} {fuel i j g : Nat} {b : Bool} {listed : Array Bool} {oi : Oper} {Post : Fr → World → Prop} (hi : ops[i]? = some oi) (hg : oi.guard = some (j, b)) (hj : (ops[j]?).bind (·.dst) = some g) (hb : Fr.get F g = some (.bool b)) (hw : OpW P N oi F w Post)
  (h : ∀ F' w', Post F' w' → S w' ∧ RH P f N ops S fuel (listed.setIfInBounds i true) k F' w' R) : RC P f N ops S fuel listed k i F w R := by
 intro a ha
 unfold wpOp
 rw [hi]
 simp only [Region.wanted, hg, yielded_of ha hj hb]
 rw [if_pos (by simp)]
 exact .inl (hw a ha _ _ fun F' a' w' hp ha' => ⟨(h F' w' hp).1, (h F' w' hp).2 a' ha'⟩)
theorem quiet_call {fo : Operand} {xs : Array Operand} {ats : Array TypeId} {g : FuncId} {cap : Array Value} {vs : List Value} {v : Value} {a : Act} (ha : Holds N F a) (hcl : Callable P g)
  (ho : o.op = .call { callee := .value fo, args := xs, argTypes := ats }) (hf : Fr.ev F fo = some (.func (.func g) #[] cap)) (hx : Fr.evs F xs.toList = some vs)
  (hC : ∀ w', C w' → Calls P g (vs.toArray ++ cap) w' (fun e w'' => e = .returned v ∧ C w'')) : ∀ w', C w' → o.quietAt P a C w' v := fun w' hw' => by
 have hargs : xs.map a.eval = vs.toArray := by
  apply Array.ext'
  simpa using ha.evs hx
 have hrun : (execOp a.eval o).run P w' = .ok (.enter g (vs.toArray ++ cap)) w' := by
  unfold execOp
  simp only [ho, resolve, Sem.run_bind, Deferred.ofValue, ha.ev hf, hargs]
  simp [invoke, Result.andThen, run_callFunc hcl]
 unfold Oper.quietAt
 rw [hrun]
 exact ⟨rfl, hC w' hw'⟩
theorem rk_call {fo : Operand} {xs : Array Operand} {ats : Array TypeId} {g : FuncId} {cap : Array Value} {vs : List Value} {d : Nat} {v : Value} (hcl : Callable P g) (hg : o.guard = none) (hd : o.dst = some d) (hN : Nat.blt d N = true)
  (ho : o.op = .call { callee := .value fo, args := xs, argTypes := ats }) (hf : Fr.ev F fo = some (.func (.func g) #[] cap)) (hx : Fr.evs F xs.toList = some vs)
  (hC : ∀ w', C w' → Calls P g (vs.toArray ++ cap) w' (fun e w'' => e = .returned v ∧ C w'')) (h : RKl P f N ops C rest k ((d, v) :: F) R) : RKl P f N ops C (o :: rest) k F R := by
 intro a ha
 refine wpQuiet_step fun K hK => ?_
 rw [if_pos (by simp [Region.wanted, hg])]
 refine ⟨v, quiet_call ha hcl ho hf hx hC, ?_⟩
 rw [hd]
 exact hK _ (h _ (ha.put (lt_of_blt hN) v))
theorem rk_gcall {fo : Operand} {xs : Array Operand} {ats : Array TypeId} {g j gs : Nat} {b : Bool} {cap : Array Value} {vs : List Value} {d : Nat} {v : Value} (hcl : Callable P g) (hg : o.guard = some (j, b)) (hj : (ops[j]?).bind (·.dst) = some gs) (hb : Fr.get F gs = some (.bool b)) (hd : o.dst = some d) (hN : Nat.blt d N = true)
  (ho : o.op = .call { callee := .value fo, args := xs, argTypes := ats }) (hf : Fr.ev F fo = some (.func (.func g) #[] cap)) (hx : Fr.evs F xs.toList = some vs)
  (hC : ∀ w', C w' → Calls P g (vs.toArray ++ cap) w' (fun e w'' => e = .returned v ∧ C w'')) (h : RKl P f N ops C rest k ((d, v) :: F) R) : RKl P f N ops C (o :: rest) k F R := by
 intro a ha
 refine wpQuiet_step fun K hK => ?_
 rw [if_pos (by simp [Region.wanted, hg, yielded_of ha hj hb])]
 refine ⟨v, quiet_call ha hcl ho hf hx hC, ?_⟩
 rw [hd]
 exact hK _ (h _ (ha.put (lt_of_blt hN) v))
end
end Go.Proofs.Ytfbbagnpdfafjaa
