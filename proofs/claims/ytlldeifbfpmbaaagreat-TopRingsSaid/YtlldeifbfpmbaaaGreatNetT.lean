import Derived.Test.YtlldeifbfpmbaaaGreatNetR
import Derived.Test.YtlldeifbfpmbaaaGreatNetK
set_option maxRecDepth 100000
namespace Go.Proofs.YtlldeifbfpmbaaaGreat
open Go.RowKit Go.Proofs
def ps (n : Nat) (D : Int → Int → Int) (v : Int) : Int := sm (fun i => D i v) n - sm (D v) n
def gs (n : Nat) (D : Int → Int → Int) (i k v : Int) : Int := sm (fun r => D r v) i + (if v < k then D i v else 0) - (if v < i then sm (D v) n else 0) - (if v = i then sm (D i) k else 0)
theorem gs_zero (n : Nat) (D : Int → Int → Int) (v : Int) (h : 0 ≤ v) : gs n D 0 0 v = 0 := by
 unfold gs
 rw [sm_zero, if_neg (by omega), if_neg (by omega), sm_zero]
 split <;> rfl
theorem gs_row (n : Nat) (D : Int → Int → Int) (i v : Int) (hi : 0 ≤ i) (h : 0 ≤ v) (h1 : v < n) : gs n D i n v = gs n D (i + 1) 0 v := by
 unfold gs
 rw [sm_succ _ hi, if_pos h1, if_neg (show ¬ v < 0 by omega), sm_zero]
 by_cases e : v = i
 ·subst e; simp [show ¬ v < v by omega, show v < v + 1 by omega]
 ·by_cases q : v < i
  ·simp [e, q, show v < i + 1 by omega, show v ≠ i + 1 by omega]
  ·simp [e, q, show ¬ v < i + 1 by omega]
theorem gs_end (n : Nat) (D : Int → Int → Int) (v : Int) (h : 0 ≤ v) (h1 : v < n) : gs n D n 0 v = ps n D v := by
 unfold gs ps
 rw [if_neg (by omega), if_pos h1, if_neg (by omega)]
 omega
theorem gs_step (n : Nat) (D : Int → Int → Int) (i k v : Int) (hk : 0 ≤ k) : gs n D i (k + 1) v = gs n D i k v + (if v = k then D i k else 0) - (if v = i then D i k else 0) := by
 unfold gs
 rw [sm_succ _ hk]
 by_cases e : v = k
 ·subst e
  by_cases q : v = i
  ·simp [q]; omega
  ·simp [q]; omega
 ·by_cases q : v = i
  ·subst q
   by_cases l : v < k
   ·simp [e, l, show v < k + 1 by omega]; omega
   ·simp [e, l, show ¬ v < k + 1 by omega]; omega
  ·by_cases l : v < k
   ·simp [e, q, l, show v < k + 1 by omega]
   ·simp [e, q, l, show ¬ v < k + 1 by omega]
theorem gs_rng {n : Nat} {D : Int → Int → Int} (hn : n ≤ 32) (hD : ∀ i j : Int, 0 ≤ i → i < n → 0 ≤ j → j < n → 0 ≤ D i j ∧ D i j ≤ 1000000) {i k v : Int} (i0 : 0 ≤ i) (i1 : i < n) (k0 : 0 ≤ k) (k1 : k ≤ n) (v0 : 0 ≤ v) (v1 : v < n) : -100000000 ≤ gs n D i k v ∧ gs n D i k v ≤ 100000000 := by
 have h1 : 0 ≤ sm (fun r => D r v) i := sm_nonneg fun r r0 r1 => (hD r v r0 (by omega) v0 v1).1
 have h2 : sm (fun r => D r v) i ≤ i * 1000000 := sm_bound _ i0 fun r r0 r1 => (hD r v r0 (by omega) v0 v1).2
 have h3 : 0 ≤ sm (D v) n := sm_nonneg fun r r0 r1 => (hD v r v0 v1 r0 r1).1
 have h4 : sm (D v) n ≤ n * 1000000 := sm_bound _ (by omega) fun r r0 r1 => (hD v r v0 v1 r0 r1).2
 have h5 : 0 ≤ sm (D i) k := sm_nonneg fun r r0 r1 => (hD i r i0 i1 r0 (by omega)).1
 have h6 : sm (D i) k ≤ k * 1000000 := sm_bound _ k0 fun r r0 r1 => (hD i r i0 i1 r0 (by omega)).2
 have h7 := hD i v i0 i1 v0 v1
 unfold gs
 split <;> split <;> split <;> omega
theorem positions_any (ao : Option Addr) (n c : Nat) (D : Int → Int → Int) (w : World) (hn : n ≤ 32) (hD : ∀ i j : Int, 0 ≤ i → i < n → 0 ≤ j → j < n → 0 ≤ D i j ∧ D i j ≤ 1000000)
  (h : ITab w.heap.size w ao n (fun _ => n) (fun r c => .int .i64 (D r c))) :
  Calls Tryz.prog 64 #[.slice ao n c] w fun e w' => ∃ b, e = .returned (.slice (some ⟨b, 0, none⟩) n n) ∧ Own w.heap.size w w' [some (vch b 2 n (fun i => .int .i64 (ps n D i)))] := by
 obtain ⟨A, C, RB, RO, gb, go, hga, hrow, hra, hel, _⟩ := h.open
 refine calls_of_run (F := [(0, _)]) Tryz.func64 rfl Tryz.ntmps64 rfl rfl ?_
 have hO0 := Own.init w
 refine run_seq <| run_region <| rl_v rfl rfl rfl (ov_assign rfl rfl) <| rl_nil <| run_seq <| run_region <| rl_v rfl rfl rfl (ov_move rfl rfl) <| rl_v rfl rfl rfl (ov_len rfl Tryz.underlying64 rfl) ?_
 refine rl_make (n) rfl rfl rfl rfl Tryz.underlying65 info_2 rfl hO0 rfl rfl (by rfl) (by rfl) ⟨by omega, by omega⟩ (fun b w1 hO2 hs3 => ?_)
 refine rl_v rfl rfl rfl (ov_assign rfl rfl) <| rl_nil <| run_seq <| run_seq <| run_region <| rl_v rfl rfl rfl (ov_move rfl rfl) <| rl_v rfl rfl rfl (ov_len rfl Tryz.underlying64 rfl) <| rl_v rfl rfl rfl (ov_move rfl rfl) <| rl_nil <| run_block <| Run.keep [3, 11, 12, 13] (F' := [(3, _), (11, _), (12, _), (13, _)]) rfl <| run_loop2 (fun (k : Int) (g : Int → Int) => [(13, .int .i64 k)]) [3, 11, 12] (fun (k : Int) (g : Int → Int) (w4 : World) => 0 ≤ k ∧ k ≤ n ∧ (∀ v : Int, 0 ≤ v → v < n → g v = gs n D k 0 v) ∧ Own w.heap.size w w4 [some (vch b 2 n (fun i => .int .i64 (g i)))]) (fun (k : Int) (g : Int → Int) => ((n : Int) - k).toNat) (0) (fun _ => 0) ?_ (And.intro (by exact slot_int rfl (by first | omega)) (And.intro rfl (And.intro rfl (And.intro rfl trivial)))) ?_
 ·exact ⟨by omega, by omega, fun v v0 v1 => (gs_zero n D v v0).symm, hO2⟩
 intro k g w4 hIw4 ih5
 obtain ⟨hk0, hk1, hg, hO⟩ := hIw4
 show Run _ _ _ _ [(13, _), (3, _), (11, _), (12, _)] _ _
 refine run_seq <| run_region <| rl_v rfl rfl rfl (ov_lss rfl rfl rfl) <| rl_nil <| run_seq ?_
 first | refine run_cond_dec rfl (fun h1 => ?_) (fun h1 => ?_) | refine run_cond rfl (fun h1 => ?_) (fun h1 => ?_)
 ·refine run_skip <| run_seq <| run_block <| run_seq <| run_region <| rl_v rfl rfl rfl (ov_move rfl rfl) <| rl_v rfl rfl rfl (ov_index1 rfl Tryz.underlying64 (by kernel_rfl) rfl rfl ⟨by omega, by omega⟩ (by exact hga (by omega))) ?_
  refine rl_v rfl rfl rfl (ov_load rfl Tryz.underlying65 rfl rfl (by exact hrow _ hO.below _ (by omega) (by omega))) ?_
  refine rl_v rfl rfl rfl (ov_assign rfl rfl) <| rl_v rfl rfl rfl (ov_assign rfl rfl) <| rl_nil <| run_seq <| run_region <| rl_v rfl rfl rfl (ov_move rfl rfl) <| rl_v rfl rfl rfl (ov_len rfl Tryz.underlying65 rfl) <| rl_v rfl rfl rfl (ov_move rfl rfl) <| rl_nil <| run_block <| Run.keep [3, 4, 11, 12, 13, 18, 19, 20] (F' := [(3, _), (4, _), (11, _), (12, _), (13, _), (18, _), (19, _), (20, _)]) rfl <| run_loop2 (fun (j : Int) (g2 : Int → Int) => [(20, .int .i64 j)]) [3, 4, 11, 12, 13, 18, 19] (fun (j : Int) (g2 : Int → Int) (w6 : World) => 0 ≤ j ∧ j ≤ n ∧ (∀ v : Int, 0 ≤ v → v < n → g2 v = gs n D k j v) ∧ Own w.heap.size w w6 [some (vch b 2 n (fun i => .int .i64 (g2 i)))]) (fun (j : Int) (g2 : Int → Int) => ((n : Int) - j).toNat) (0) (g) ?_ (And.intro (by exact slot_int rfl (by first | omega)) (And.intro rfl (And.intro rfl (And.intro rfl (And.intro rfl (And.intro rfl (And.intro rfl (And.intro rfl trivial)))))))) ?_
  ·exact ⟨by omega, by omega, hg, hO⟩
  intro j g2 w6 hIw6 ih7
  obtain ⟨hj0, hj1, hg2, hO2⟩ := hIw6
  show Run _ _ _ _ [(20, _), (3, _), (4, _), (11, _), (12, _), (13, _), (18, _), (19, _)] _ _
  refine run_seq <| run_region <| rl_v rfl rfl rfl (ov_lss rfl rfl rfl) <| rl_nil <| run_seq ?_
  first | refine run_cond_dec rfl (fun h2 => ?_) (fun h2 => ?_) | refine run_cond rfl (fun h2 => ?_) (fun h2 => ?_)
  ·have hd := hD k j hk0 h1 hj0 h2
   have hr1 := gs_rng hn hD hk0 h1 hj0 hj1 hj0 h2
   have hr2 := gs_rng hn hD hk0 h1 hj0 hj1 hk0 h1
   have e1 := hg2 j hj0 h2
   have e2 := hg2 k hk0 h1
   have hu : -200000000 ≤ upd g2 k (g2 k - D k j) j ∧ upd g2 k (g2 k - D k j) j ≤ 200000000 := by unfold upd; split <;> omega
   refine run_skip <| run_seq <| run_block <| run_seq <| run_region <| rl_v rfl rfl rfl (ov_move rfl rfl) <| rl_v rfl rfl rfl (ov_index1 rfl Tryz.underlying65 (by kernel_rfl) rfl rfl ⟨by omega, by omega⟩ (by exact hra _ (by omega) (by omega) (by omega))) ?_
   refine rl_v rfl rfl rfl (ov_load rfl Tryz.underlying2 rfl rfl (by exact hel _ hO2.below _ (by omega) (by omega) _ (by omega) (by omega))) ?_
   refine rl_v rfl rfl rfl (ov_assign rfl rfl) <| rl_v rfl rfl rfl (ov_assign rfl rfl) <| rl_nil <| run_seq <| run_region <| rl_v rfl rfl rfl (ov_move rfl rfl) <| rl_v rfl rfl rfl (ov_move rfl rfl) <| rl_v rfl rfl rfl (ov_index1 rfl Tryz.underlying65 (by kernel_rfl) rfl rfl ⟨by omega, by omega⟩ (by rfl)) ?_
   refine rl_v rfl rfl rfl (ov_load rfl Tryz.underlying2 rfl rfl (by exact hO2.cellI 0 rfl _ (by omega) (by omega))) ?_
   refine rl_v rfl rfl rfl (ov_move rfl rfl) <| rl_v rfl rfl rfl (ov_sub rfl rfl rfl (by omega)) ?_
   refine rl_v rfl rfl rfl (ov_index1 rfl Tryz.underlying65 (by kernel_rfl) rfl rfl ⟨by omega, by omega⟩ (by rfl)) ?_
   refine rl_ow rfl (ow_storeI rfl rfl (by kernel_rfl) hO2 0 rfl rfl ⟨by omega, by omega⟩ rfl) ?_
   rintro _ w8 ⟨rfl, hO9, hs10⟩
   refine rl_nil <| run_region <| rl_v rfl rfl rfl (ov_move rfl rfl) <| rl_v rfl rfl rfl (ov_move rfl rfl) <| rl_v rfl rfl rfl (ov_index1 rfl Tryz.underlying65 (by kernel_rfl) rfl rfl ⟨by omega, by omega⟩ (by rfl)) ?_
   refine rl_v rfl rfl rfl (ov_load rfl Tryz.underlying2 rfl rfl (by exact hO9.cellI 0 rfl _ (by omega) (by omega))) ?_
   refine rl_v rfl rfl rfl (ov_move rfl rfl) <| rl_v rfl rfl rfl (ov_add rfl rfl rfl (by omega)) ?_
   refine rl_v rfl rfl rfl (ov_index1 rfl Tryz.underlying65 (by kernel_rfl) rfl rfl ⟨by omega, by omega⟩ (by rfl)) ?_
   refine rl_ow rfl (ow_storeI rfl rfl (by kernel_rfl) hO9 0 rfl rfl ⟨by omega, by omega⟩ rfl) ?_
   rintro _ w11 ⟨rfl, hO12, hs13⟩
   refine rl_nil <| run_inBlock <| run_region <| rl_v rfl rfl rfl (ov_add rfl rfl rfl (by omega)) ?_
   refine rl_v rfl rfl rfl (ov_move rfl rfl) <| rl_nil ?_
   refine Run.use (ih7 (j + 1) (upd (upd g2 k (g2 k - D k j)) j (upd g2 k (g2 k - D k j) j + D k j)) _ ?_ ?_) (And.intro (by exact slot_int rfl (by first | omega)) (And.intro rfl (And.intro rfl (And.intro rfl (And.intro rfl (And.intro rfl (And.intro rfl (And.intro rfl trivial))))))))
   ·first | omega | (dsimp only; omega)
   ·exact ⟨by omega, by omega, fun v v0 v1 => by rw [gs_step n D k j v hj0, ← hg2 v v0 v1]; unfold upd; by_cases q : v = j; (subst q; rw [if_pos rfl, if_pos rfl]; split; (rename_i e; subst e; omega); omega); (rw [if_neg q, if_neg q]; split; (rename_i e; subst e; omega); omega), hO12⟩
  ·obtain rfl : j = n := by omega
   refine run_exit rfl <| run_inBlock <| run_region <| rl_v rfl rfl rfl (ov_add rfl rfl rfl (by omega)) ?_
   refine rl_v rfl rfl rfl (ov_move rfl rfl) <| rl_nil ?_
   refine Run.use (ih5 (k + 1) (g2) _ ?_ ?_) (And.intro (by exact slot_int rfl (by first | omega)) (And.intro rfl (And.intro rfl (And.intro rfl trivial))))
   ·first | omega | (dsimp only; omega)
   ·exact ⟨by omega, by omega, fun v v0 v1 => by rw [hg2 v v0 v1, gs_row n D k v hk0 v0 v1], hO2⟩
 ·obtain rfl : k = n := by omega
  refine run_exit rfl <| run_seq <| run_region <| rl_v rfl rfl rfl (ov_move rfl rfl) <| rl_v rfl rfl rfl (ov_assign rfl rfl) <| rl_nil <| run_ret Tryz.func64 (res1 Tryz.results64 rfl) ?_
  exact ⟨b, rfl, hO.congrI 0 rfl (fun v v0 v1 => by rw [hg v v0 v1, gs_end n D v v0 v1])⟩
theorem Valid.all {n : Nat} {D : Int → Int → Int} (hv : Valid n D) : ∀ i j : Int, 0 ≤ i → i < n → 0 ≤ j → j < n → 0 ≤ D i j ∧ D i j ≤ 1000000 := fun i j _ _ _ _ => ⟨hv.lo i j, hv.hi i j⟩
end Go.Proofs.YtlldeifbfpmbaaaGreat
set_option maxRecDepth 100000
namespace Go.Proofs.YtlldeifbfpmbaaaGreat
open Go.RowKit Go.Proofs
theorem pk_mono {P Q : Int → Bool} {k : Nat} (h : ∀ i : Int, 0 ≤ i → i < k → P i = true → Q i = true) : (pk P k).length ≤ (pk Q k).length := by
 induction k with
 | zero => exact Nat.le_refl _
 | succ k ih =>
  have h1 := ih fun i i0 i1 => h i i0 (by omega)
  have h2 := h k (by omega) (by omega)
  unfold pk
  cases hp : P k <;> cases hq : Q k <;> simp_all <;> omega
theorem pk_lt {P Q : Int → Bool} {k : Nat} (h : ∀ i : Int, 0 ≤ i → i < k → P i = true → Q i = true) (x : Int) (h0 : 0 ≤ x) (h1 : x < k) (hp : P x = false) (hq : Q x = true) : (pk P k).length < (pk Q k).length := by
 induction k with
 | zero => omega
 | succ k ih =>
  have hm := pk_mono (P := P) (Q := Q) (k := k) fun i i0 i1 => h i i0 (by omega)
  have h2 := h k (by omega) (by omega)
  by_cases e : x = (k : Int)
  ·subst e
   unfold pk
   rw [hp, hq]
   simp
   omega
  ·have h3 := ih (fun i i0 i1 => h i i0 (by omega)) (by omega)
   unfold pk
   cases hp' : P k <;> cases hq' : Q k <;> simp_all <;> omega
end Go.Proofs.YtlldeifbfpmbaaaGreat
