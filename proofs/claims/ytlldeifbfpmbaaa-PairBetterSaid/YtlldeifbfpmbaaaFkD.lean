import Derived.Test.YtlldeifbfpmbaaaFnG
import Derived.Test.YtlldeifbfpmbaaaFkA
set_option maxRecDepth 100000
namespace Go.Proofs.Ytlldeifbfpmbaaa
open Go.RowKit Go.Proofs
theorem min_ex (P : Int → Prop) (t : Int → Int) : ∀ n : Nat, (∃ x : Int, (0 ≤ x ∧ x < n) ∧ P x) → ∃ x : Int, (0 ≤ x ∧ x < n) ∧ P x ∧ ∀ y : Int, 0 ≤ y → y < n → P y → t x ≤ t y := by
 intro n
 induction n with
 | zero => rintro ⟨x, ⟨x0, x1⟩, _⟩; omega
 | succ n ih =>
  rintro ⟨x, ⟨x0, x1⟩, hx⟩
  by_cases c : ∃ x : Int, (0 ≤ x ∧ x < n) ∧ P x
  ·obtain ⟨a, ha, hPa, hm⟩ := ih c
   by_cases c2 : P n ∧ t n < t a
   ·refine ⟨n, by omega, c2.1, fun y y0 y1 hy => ?_⟩
    by_cases e : y = n
    ·rw [e]; exact Int.le_refl _
    ·have := hm y y0 (by omega) hy; omega
   ·refine ⟨a, by omega, hPa, fun y y0 y1 hy => ?_⟩
    by_cases e : y = n
    ·rw [e] at hy ⊢; exact Classical.byContradiction fun h => c2 ⟨hy, by omega⟩
    ·exact hm y y0 (by omega) hy
  ·have e : x = n := Classical.byContradiction fun h => c ⟨x, by omega, hx⟩
   refine ⟨x, ⟨x0, x1⟩, hx, fun y y0 y1 hy => ?_⟩
   have e2 : y = n := Classical.byContradiction fun h => c ⟨y, by omega, hy⟩
   rw [e, e2]; exact Int.le_refl _
theorem core_noCoal {n : Nat} {L : Int → Nat} {E : Int → Int → Int} {o t : Int → Int} (hC : (wishOf n L E).Cert o t) {I : Int → Prop} (hI : ∀ x : Int, I x → 0 ≤ x ∧ x < n) : ¬ Coal (lik5 L E) o I := by
 classical
 rintro ⟨w, hw, σ, h1, h2⟩
 have hkey : ∀ x : Int, I x → t (σ x) ≤ t x ∧ ((wishOf n L E).rk x (σ x) < (wishOf n L E).rk x (o x) → t (σ x) < t x) := fun x hx => by
  obtain ⟨x0, x1⟩ := hI x hx
  have hon := hC.on x x0 x1
  have hst : (wishOf n L E).rk x (σ x) < (wishOf n L E).rk x (o x) → t (σ x) < t x := fun hlt => by
   have hr := rk_rng ((wishOf n L E).e x) (σ x) ((wishOf n L E).l x)
   have hb := hC.best x ((wishOf n L E).rk x (σ x)) x0 x1 hr.1 hlt
   rw [show (wishOf n L E).e x ((wishOf n L E).rk x (σ x)) = σ x from rk_at (by unfold Wish.rk at hlt hon; omega)] at hb
   exact hb
  refine ⟨?_, hst⟩
  rcases (h1 x hx).2.2 with h | h
  ·exact Int.le_of_lt (hst (lik_lt.1 h))
  ·have he := (lik_eq (n := n)).1 h.2
   have q1 : (wishOf n L E).e x ((wishOf n L E).rk x (o x)) = o x := rk_at hon
   have q2 : (wishOf n L E).e x ((wishOf n L E).rk x (σ x)) = σ x := rk_at (by unfold Wish.rk at he hon; omega)
   have q3 : σ x = o x := by rw [← q1, ← q2, he]
   rw [q3, hC.lev x x0 x1]
   exact Int.le_refl _
 obtain ⟨τ, hτ⟩ : ∃ τ : Int → Int, τ = fun x => if I x then σ x else x := ⟨_, rfl⟩
 have hin : ∀ x, I x → τ x = σ x := fun x hx => by rw [hτ]; exact if_pos hx
 have hout : ∀ x, ¬ I x → τ x = x := fun x hx => by rw [hτ]; exact if_neg hx
 have hrng : ∀ i : Int, 0 ≤ i → i < n → 0 ≤ τ i ∧ τ i < n := fun i i0 i1 => by
  by_cases c : I i
  ·rw [hin i c]; exact hI _ (h1 i c).2.1
  ·rw [hout i c]; exact ⟨i0, i1⟩
 have hinj : ∀ i j : Int, 0 ≤ i → i < n → 0 ≤ j → j < n → τ i = τ j → i = j := fun i j i0 i1 j0 j1 e => by
  by_cases c : I i <;> by_cases d : I j
  ·rw [hin i c, hin j d] at e; exact h2 i j c d e
  ·rw [hin i c, hout j d] at e; exact absurd (e ▸ (h1 i c).2.1) d
  ·rw [hout i c, hin j d] at e; exact absurd (e.symm ▸ (h1 j d).2.1) c
  ·rw [hout i c, hout j d] at e; exact e
 have hs := sm_perm (n := n) (by omega) hrng hinj t
 have hle : ∀ i : Int, 0 ≤ i → i < n → t (τ i) ≤ t i := fun i i0 i1 => by
  by_cases c : I i
  ·rw [hin i c]; exact (hkey i c).1
  ·rw [hout i c]; exact Int.le_refl _
 have hwr := hI w hw
 have he := sm_eq (f := fun i => t (τ i)) (g := t) hle (by rw [hs]; exact Int.le_refl _) hwr.1 hwr.2
 have h3 : t (τ w) = t w := he
 rw [hin w hw] at h3
 have h4 := (hkey w hw).2 (by
  rcases (h1 w hw).2.2 with h | h
  ·exact lik_lt.1 h
  ·exact absurd rfl h.1)
 omega
theorem core_only {n : Nat} {L : Int → Nat} {E : Int → Int → Int} {o t m : Int → Int} (hC : (wishOf n L E).Cert o t) (hm : IsL n m n) (hno : ∀ I : Int → Prop, (∀ x : Int, I x → 0 ≤ x ∧ x < n) → ¬ Coal (lik5 L E) m I) {i : Int} (i0 : 0 ≤ i) (i1 : i < n) : lik5 L E i (m i) = lik5 L E i (o i) := by
 refine Classical.byContradiction fun hne => ?_
 obtain ⟨a, ⟨a0, a1⟩, ha, hmin⟩ := min_ex (fun x => lik5 L E x (m x) ≠ lik5 L E x (o x)) t n ⟨i, ⟨i0, i1⟩, hne⟩
 have hmi : ∀ i j : Int, 0 ≤ i → i < (wishOf n L E).n → 0 ≤ j → j < (wishOf n L E).n → m i = m j → i = j := fun i j i0 i1 j0 j1 e => hm.2 i j i0 i1 j0 j1 e
 have hbelow : ∀ x : Int, 0 ≤ x → x < (wishOf n L E).n → t x < t a → m x = o x := fun x x0 x1 hx => by
  have he : lik5 L E x (m x) = lik5 L E x (o x) := Classical.byContradiction fun h => by have := hmin x x0 x1 h; omega
  have he2 := (lik_eq (n := n)).1 he
  have hon := hC.on x x0 x1
  have q1 : (wishOf n L E).e x ((wishOf n L E).rk x (o x)) = o x := rk_at hon
  have q2 : (wishOf n L E).e x ((wishOf n L E).rk x (m x)) = m x := rk_at (by unfold Wish.rk at he2 hon; omega)
  rw [← q1, ← q2, he2]
 have hlev : ∀ x : Int, 0 ≤ x → x < n → t x = t a → ¬ lik5 L E x (m x) < lik5 L E x (o x) := fun x x0 x1 hx h =>
  hC.notBetter hmi x0 x1 (hm.1 x x0 x1) (by rw [hx]; exact hbelow) (lik_lt.1 h)
 refine hno (fun x => (0 ≤ x ∧ x < n) ∧ t x = t a) (fun x hx => hx.1) ⟨a, ⟨⟨a0, a1⟩, rfl⟩, o, fun x hx => ⟨hx, ⟨hC.rng x hx.1.1 hx.1.2, (hC.lev x hx.1.1 hx.1.2).trans hx.2⟩, ?_⟩, fun x y hx hy e => hC.inj x y hx.1.1 hx.1.2 hy.1.1 hy.1.2 e⟩
 have h1 := hlev x hx.1.1 hx.1.2 hx.2
 by_cases e : lik5 L E x (o x) < lik5 L E x (m x)
 ·exact .inl e
 ·have e2 : lik5 L E x (o x) = lik5 L E x (m x) := by omega
  exact .inr ⟨fun h => ha (by rw [← h]; exact e2.symm), e2⟩
end Go.Proofs.Ytlldeifbfpmbaaa
set_option maxRecDepth 100000
namespace Go.Proofs.Ytlldeifbfpmbaaa
open Go.RowKit Go.Proofs Go.MapKept
def tdx (X : Int → Int) (N : Nat) (i : Int) : Int := IntKind.i64.wrap (IntKind.u64.wrap (X i) % IntKind.u64.wrap (N : Int))
theorem tdx_rng (X : Int → Int) {N : Nat} (hN0 : 0 < N) (hN : N ≤ 1000) (i : Int) : 0 ≤ tdx X N i ∧ tdx X N i < N := by
 unfold tdx
 have eN : IntKind.u64.wrap (N : Int) = N := IntWalk.u64_in _ (by omega)
 rw [eN]
 have h1 : 0 ≤ IntKind.u64.wrap (X i) % (N : Int) := Int.emod_nonneg _ (by omega)
 have h2 : IntKind.u64.wrap (X i) % (N : Int) < N := Int.emod_lt_of_pos _ (by omega)
 rw [IntWalk.i64_in _ (by omega)]
 exact ⟨h1, h2⟩
theorem refOutcome_any (ga la : Option Addr) (n gc ln lc : Nat) (l : Int → Int) (w : World) (hln : ln ≤ 1000000) (hl : IAt w.heap.size w la ln (fun i => iv (l i))) :
  Calls Try.prog 28 #[.agg #[.slice ga n gc], .slice la ln lc] w fun e w' => e = .returned (.bool (dB (ln = n ∧ IsL ln l n))) ∧ Below w.heap.size w w' := by
 refine calls_of_run (F := [(0, _), (1, _)]) Try.func28 rfl Try.ntmps28 rfl rfl ?_
 have hO0 := Own.init w
 refine run_seq <| run_region <| rl_ow rfl (ow_box _ rfl rfl rfl rfl rfl hO0) ?_
 rintro _ w1 ⟨b2, rfl, hO2, hs3⟩
 refine rl_v rfl rfl rfl (ov_assign rfl rfl) <| rl_nil <| run_seq <| run_region <| rl_v rfl rfl rfl (ov_move rfl rfl) <| rl_v rfl rfl rfl (ov_len rfl Try.underlying23 rfl) <| rl_v rfl rfl rfl (ov_fieldS rfl Try.underlying47 rfl (fo := 0) rfl (by kernel_rfl) rfl) ?_
 refine rl_v rfl rfl rfl (ov_load rfl Try.underlying22 rfl rfl (by exact hO2.cellL 0 rfl (off := 0) rfl)) ?_
 refine rl_v rfl rfl rfl (ov_len rfl Try.underlying22 rfl) <| rl_v rfl rfl rfl (ov_eql rfl rfl rfl) <| rl_v rfl rfl rfl (ov_move rfl rfl) ?_
 first | refine rl_split_dec 11 rfl (fun g1 => ?_) (fun g1 => ?_) | refine rl_split 11 rfl (fun g1 => ?_) (fun g1 => ?_)
 ·refine rl_gv rfl rfl rfl rfl rfl (ov_move rfl rfl) <| rl_gv rfl rfl rfl rfl rfl (ov_fieldS rfl Try.underlying47 rfl (fo := 0) rfl (by kernel_rfl) rfl) ?_
  refine rl_gv rfl rfl rfl rfl rfl (ov_load rfl Try.underlying22 rfl rfl (by exact hO2.cellL 0 rfl (off := 0) rfl)) ?_
  refine rl_gv rfl rfl rfl rfl rfl (ov_len rfl Try.underlying22 rfl) ?_
  refine rl_gcall callable_60 rfl rfl rfl rfl rfl rfl rfl rfl (callsDB (refRight_any la ln lc n l _ hln (hO2.iatF hl))) (fun e5 w6 hp7 => ?_)
  obtain ⟨rfl, hb⟩ := hp7
  refine ⟨_, rfl, ?_⟩
  have hO8 := hO2.past hb
  have hg : ln = n := by omega
  refine rl_v rfl rfl rfl (ov_pick_t rfl rfl rfl) <| rl_v rfl rfl rfl (ov_assign rfl rfl) <| rl_nil <| run_ret Try.func28 (res1 Try.results28 rfl) ?_
  exact ⟨congrArg (fun x => Ending.returned (.bool x)) (congrArg (fun p : Prop => dB p) (propext ⟨fun h => ⟨hg, h⟩, fun h => h.2⟩)), hO8.below⟩
 ·have hno : dB (ln = n ∧ IsL ln l n) = false := by
   cases e : dB (ln = n ∧ IsL ln l n)
   ·rfl
   ·have := (dB_iff.1 e).1; omega
  refine rl_gskip rfl rfl rfl rfl rfl rfl <| rl_gskip rfl rfl rfl rfl rfl rfl <| rl_gskip rfl rfl rfl rfl rfl rfl <| rl_gskip rfl rfl rfl rfl rfl rfl <| rl_gskip rfl rfl rfl rfl rfl rfl <| rl_v rfl rfl rfl (ov_pick_f rfl rfl rfl) <| rl_v rfl rfl rfl (ov_assign rfl rfl) <| rl_nil <| run_ret Try.func28 (res1 Try.results28 rfl) ?_
  exact ⟨congrArg (fun x => Ending.returned (.bool x)) hno.symm, hO2.below⟩
end Go.Proofs.Ytlldeifbfpmbaaa
