import Derived.Test.YtlldeifbfpmbaaaGreatFbF
set_option maxRecDepth 100000
namespace Go.Proofs.YtlldeifbfpmbaaaGreat
open Go.RowKit Go.Proofs Go.MapKept
theorem sm_uni {p : Int → Prop} [∀ i, Decidable (p i)] {n : Int} (n0 : 0 ≤ n) (h : ∀ i j : Int, 0 ≤ i → i < n → 0 ≤ j → j < n → p i → p j → i = j) : sm (fun i => if p i then 1 else 0) n ≤ 1 := by
 by_cases c : ∃ i : Int, 0 ≤ i ∧ i < n ∧ p i
 ·obtain ⟨i, i0, i1, hi⟩ := c
  have e : sm (fun i => if p i then 1 else 0) n = sm (fun j => if i = j then 1 else 0) n := sm_congr fun j j0 j1 => by
   by_cases e : i = j
   ·rw [if_pos e, ← e, if_pos hi]
   ·rw [if_neg e, if_neg fun hj => e (h i j i0 i1 j0 j1 hi hj)]
  rw [e, sm_one i0 i1]
  omega
 ·rw [sm_congr (g := fun _ => 0) fun i i0 i1 => if_neg fun hi => c ⟨i, i0, i1, hi⟩, sm_const 0 n0]
  omega
theorem pigeon {e : Int → Int} {n m : Nat} (hr : ∀ k : Int, 0 ≤ k → k < n → 0 ≤ e k ∧ e k < m) (hd : ∀ a b : Int, 0 ≤ a → a < n → 0 ≤ b → b < n → e a = e b → a = b) : n ≤ m := by
 have h1 : sm (fun k => sm (fun b => if e k = b then 1 else 0) m) n = n := by
  rw [sm_congr (g := fun _ => 1) fun k k0 k1 => sm_one (hr k k0 k1).1 (hr k k0 k1).2 1, sm_const 1 (by omega)]
  omega
 rw [sm_swap] at h1
 have h2 : sm (fun b => sm (fun k => if e k = b then 1 else 0) n) m ≤ m * 1 := sm_bound 1 (by omega) fun b _ _ => sm_uni (by omega) fun i j i0 i1 j0 j1 h1 h2 => hd i j i0 i1 j0 j1 (h1.trans h2.symm)
 omega
theorem Fair.Ok.glm {f : Fair} (hf : f.Ok) {g : Int} (g0 : 0 ≤ g) (g1 : g < f.n) : f.gl g ≤ f.m := pigeon (fun k => hf.gr g k g0 g1) (hf.gd g g0 g1)
def leftB (f : Fair) (nb : Int → Int) : Nat := (sm (fun b => (f.bl b : Int) - nb b) f.m).toNat
theorem leftB_upd {f : Fair} {l nb : Int → Int} (h : f.AS l nb) {b : Int} (b0 : 0 ≤ b) (b1 : b < f.m) (hn : nb b < f.bl b) : leftB f (upd nb b (nb b + 1)) + 1 = leftB f nb := by
 unfold leftB
 have e : (fun i => (f.bl i : Int) - upd nb b (nb b + 1) i) = upd (fun i => f.bl i - nb i) b (f.bl b - nb b - 1) := by
  funext i
  unfold upd
  by_cases c : i = b
  ·rw [if_pos c, if_pos c, c]; omega
  ·rw [if_neg c, if_neg c]
 have h1 := sm_pos (f := fun b => (f.bl b : Int) - nb b) (k := f.m) (fun i i0 i1 => by have := h.nbr i i0 i1; omega) b b0 b1
 rw [e, sm_upd _ _ _ b0 b1]
 omega
def Done (f : Fair) (l nb : Int → Int) (b : Int) : Prop := f.cnt l b = f.q b ∨ nb b = f.bl b
theorem cnt_le (f : Fair) (l : Int → Int) (b : Int) : f.cnt l b ≤ f.n := by
 have h : f.cnt l b ≤ f.n * 1 := sm_bound (f := fun g => if l g = b then (1 : Int) else 0) 1 (by omega) fun i _ _ => by split <;> omega
 omega
set_option maxHeartbeats 4000000 in
theorem asked_any (tb : Nat) (f : Fair) (w : World) (hf : f.Ok) (hs : f.Sm) (h : PT w.heap.size w tb f) :
  Calls Tryz.prog 43 #[ptr tb] w fun e w' => ∃ ob l nb, e = .returned (.slice (some ⟨ob, 0, none⟩) f.n f.n) ∧ Own w.heap.size w w' [some (vch ob 3 f.n (fun g => iv (l g)))] ∧ f.AS l nb ∧ ∀ b : Int, 0 ≤ b → b < f.m → Done f l nb b := by
 have hpt := h
 obtain ⟨ga, ba, qa, ma, na, gc, bc, qc, mc, nc, hL, hF, hM, hN⟩ := h
 have hl := hL.open
 obtain ⟨A, C, RB, RO, gb, go, hga, hrow, hra, hel, _⟩ := hF.b.open
 obtain ⟨qb, qo, hqa, hqrow⟩ := hF.q.open
 have hn := hs.n
 have hm := hs.m
 refine calls_of_run (F := [(0, _)]) Tryz.func43 rfl Tryz.ntmps43 rfl rfl ?_
 have hO0 := Own.init w
 refine run_seq <| run_region <| rl_v rfl rfl rfl (ov_assign rfl rfl) <| rl_nil <| run_seq <| run_region <| rl_ow rfl (ow_one rfl rfl rfl Tryz.underlying23 info_3 rfl hO0 rfl rfl) ?_
 rintro _ w1 ⟨b1, rfl, hO2, hs3⟩
 refine rl_v rfl rfl rfl (ov_move rfl rfl) <| rl_v rfl rfl rfl (ov_nil rfl rfl) <| rl_v rfl rfl rfl (ov_fieldS rfl Tryz.underlying100 rfl (fo := 0) rfl (by kernel_rfl) rfl) ?_
 refine rl_v rfl rfl rfl (ov_fieldS rfl Tryz.underlying27 rfl (fo := 0) rfl (by kernel_rfl) rfl) ?_
 refine rl_v rfl rfl rfl (ov_load rfl Tryz.underlying22 rfl rfl (by exact hl _ hO2.below rfl)) ?_
 refine rl_v rfl rfl rfl (ov_len rfl Tryz.underlying22 rfl) ?_
 refine rl_call callable_78 rfl rfl rfl rfl rfl rfl (repeatR'_any _ _ f.n (-1) _ (by omega) (hO2.readsI 0 rfl)) (fun e4 w5 hp6 => ?_)
 obtain ⟨ob, rfl, hOb⟩ := hp6
 refine ⟨_, rfl, ?_⟩
 have hO7 := hO2.join hOb
 refine rl_v rfl rfl rfl (ov_assign rfl rfl) <| rl_nil <| run_seq <| run_region <| rl_v rfl rfl rfl (ov_move rfl rfl) <| rl_v rfl rfl rfl (ov_nil rfl rfl) <| rl_v rfl rfl rfl (ov_fieldS rfl Tryz.underlying100 rfl (fo := 0) rfl (by kernel_rfl) rfl) ?_
 refine rl_v rfl rfl rfl (ov_fieldS rfl Tryz.underlying27 rfl (fo := 1) rfl (by kernel_rfl) rfl) ?_
 refine rl_v rfl rfl rfl (ov_load rfl Tryz.underlying22 rfl rfl (by exact hl _ hO7.below rfl)) ?_
 refine rl_v rfl rfl rfl (ov_len rfl Tryz.underlying22 rfl) ?_
 refine rl_make (f.m) rfl rfl rfl rfl Tryz.underlying23 info_3 rfl hO7 rfl rfl (by rfl) (by rfl) ⟨by omega, by omega⟩ (fun hb w8 hO9 hs10 => ?_)
 refine rl_v rfl rfl rfl (ov_assign rfl rfl) <| rl_nil <| run_seq <| run_region <| rl_v rfl rfl rfl (ov_move rfl rfl) <| rl_v rfl rfl rfl (ov_nil rfl rfl) <| rl_v rfl rfl rfl (ov_fieldS rfl Tryz.underlying100 rfl (fo := 0) rfl (by kernel_rfl) rfl) ?_
 refine rl_v rfl rfl rfl (ov_fieldS rfl Tryz.underlying27 rfl (fo := 1) rfl (by kernel_rfl) rfl) ?_
 refine rl_v rfl rfl rfl (ov_load rfl Tryz.underlying22 rfl rfl (by exact hl _ hO9.below rfl)) ?_
 refine rl_v rfl rfl rfl (ov_len rfl Tryz.underlying22 rfl) ?_
 refine rl_make (f.m) rfl rfl rfl rfl Tryz.underlying23 info_3 rfl hO9 rfl rfl (by rfl) (by rfl) ⟨by omega, by omega⟩ (fun xb w11 hO12 hs13 => ?_)
 have hc0 : ∀ b : Int, 0 ≤ b → b < f.m → f.cnt (fun _ => -1) b = 0 := fun b b0 b1 => by
  unfold Fair.cnt
  rw [sm_congr (g := fun _ => 0) fun i _ _ => if_neg (show ¬ (-1 : Int) = b by omega), sm_const 0 (by omega)]
  omega
 refine rl_v rfl rfl rfl (ov_assign rfl rfl) <| rl_nil <| run_seq <| run_seq <| run_region <| rl_v rfl rfl rfl (ov_assign rfl rfl) <| rl_nil <| run_block <| Run.keep [0, 3, 4, 5, 6] (F' := [(0, _), (3, _), (4, _), (5, _), (6, _)]) rfl <| run_loop3 (fun (again : Bool) (l : Int → Int) (nb : Int → Int) => [(6, .bool again)]) [0, 3, 4, 5] (fun (again : Bool) (l : Int → Int) (nb : Int → Int) (w14 : World) => f.AS l nb ∧ (again = false → ∀ b : Int, 0 ≤ b → b < f.m → Done f l nb b) ∧ Own w.heap.size w w14 (some (vch xb 3 f.m (fun b => iv (nb b))) :: some (vch hb 3 f.m (fun b => iv (f.cnt l b))) :: some (vch ob 3 f.n (fun g => iv (l g))) :: some (vch b1 3 1 (fun _ => iv (-1))) :: [])) (fun (again : Bool) (l : Int → Int) (nb : Int → Int) => 2 * leftB f nb + (if again then 1 else 0)) (true) (fun _ => -1) (fun _ => 0) ?_ (And.intro (by rfl) (And.intro rfl (And.intro rfl (And.intro rfl (And.intro rfl trivial))))) ?_
 ·exact ⟨Fair.AS.init f hf.q0, by simp, hO12.congrI 1 rfl (G' := fun b => iv (f.cnt (fun _ => -1) b)) fun b b0 b1 => congrArg iv (hc0 b b0 b1).symm⟩
 intro again l nb w14 hIw14 ih15
 obtain ⟨hA, hd, hO⟩ := hIw14
 show Run _ _ _ _ [(6, _), (0, _), (3, _), (4, _), (5, _)] _ _
 refine run_seq <| run_seq <| run_region <| rl_v rfl rfl rfl (ov_move rfl rfl) <| rl_nil ?_
 first | refine run_cond_dec rfl (fun h1 => ?_) (fun h1 => ?_) | refine run_cond rfl (fun h1 => ?_) (fun h1 => ?_)
 ·subst h1
  obtain ⟨l0, hl0⟩ : ∃ x, x = leftB f nb := ⟨_, rfl⟩
  refine run_skip <| run_block <| run_seq <| run_region <| rl_v rfl rfl rfl (ov_assign rfl rfl) <| rl_nil <| run_seq <| run_region <| rl_v rfl rfl rfl (ov_move rfl rfl) <| rl_v rfl rfl rfl (ov_nil rfl rfl) <| rl_v rfl rfl rfl (ov_fieldS rfl Tryz.underlying100 rfl (fo := 0) rfl (by kernel_rfl) rfl) ?_
  refine rl_v rfl rfl rfl (ov_fieldS rfl Tryz.underlying27 rfl (fo := 1) rfl (by kernel_rfl) rfl) ?_
  refine rl_v rfl rfl rfl (ov_load rfl Tryz.underlying22 rfl rfl (by exact hl _ hO.below rfl)) ?_
  refine rl_v rfl rfl rfl (ov_len rfl Tryz.underlying22 rfl) <| rl_v rfl rfl rfl (ov_move rfl rfl) <| rl_nil <| run_block <| Run.keep [0, 3, 4, 5, 6, 38, 39] (F' := [(0, _), (3, _), (4, _), (5, _), (6, _), (38, _), (39, _)]) rfl <| run_loop4 (fun (b : Int) (again : Bool) (l : Int → Int) (nb : Int → Int) => [(39, .int .i64 b), (6, .bool again)]) [0, 3, 4, 5, 38] (fun (b : Int) (again : Bool) (l : Int → Int) (nb : Int → Int) (w16 : World) => 0 ≤ b ∧ b ≤ f.m ∧ f.AS l nb ∧ leftB f nb ≤ l0 ∧ (again = true → leftB f nb < l0) ∧ (again = false → ∀ c : Int, 0 ≤ c → c < b → Done f l nb c) ∧ Own w.heap.size w w16 (some (vch xb 3 f.m (fun b => iv (nb b))) :: some (vch hb 3 f.m (fun b => iv (f.cnt l b))) :: some (vch ob 3 f.n (fun g => iv (l g))) :: some (vch b1 3 1 (fun _ => iv (-1))) :: [])) (fun (b : Int) (again : Bool) (l : Int → Int) (nb : Int → Int) => ((f.m : Int) - b).toNat) (0) (false) (l) (nb) ?_ (And.intro (by exact slot_int rfl (by first | omega)) (And.intro (by rfl) (And.intro rfl (And.intro rfl (And.intro rfl (And.intro rfl (And.intro rfl trivial))))))) ?_
  ·exact ⟨by omega, by omega, hA, by omega, by simp, fun _ c c0 c1 => by omega, hO⟩
  intro b again l nb w16 hIw16 ih17
  obtain ⟨hb0, hb1, hA, hle, hlt, hd, hO⟩ := hIw16
  show Run _ _ _ _ [(39, _), (6, _), (0, _), (3, _), (4, _), (5, _), (38, _)] _ _
  refine run_seq <| run_region <| rl_v rfl rfl rfl (ov_lss rfl rfl rfl) <| rl_nil <| run_seq ?_
  first | refine run_cond_dec rfl (fun h2 => ?_) (fun h2 => ?_) | refine run_cond rfl (fun h2 => ?_) (fun h2 => ?_)
  ·refine run_skip <| run_seq <| run_block <| run_seq <| run_region <| rl_v rfl rfl rfl (ov_move rfl rfl) <| rl_v rfl rfl rfl (ov_assign rfl rfl) <| rl_nil <| run_block <| Run.keep [0, 3, 4, 5, 6, 7, 38, 39] (F' := [(0, _), (3, _), (4, _), (5, _), (6, _), (7, _), (38, _), (39, _)]) rfl <| run_loop3 (fun (again : Bool) (l : Int → Int) (nb : Int → Int) => [(6, .bool again)]) [0, 3, 4, 5, 7, 38, 39] (fun (again : Bool) (l : Int → Int) (nb : Int → Int) (w18 : World) => f.AS l nb ∧ leftB f nb ≤ l0 ∧ (again = true → leftB f nb < l0) ∧ (again = false → ∀ c : Int, 0 ≤ c → c < b → Done f l nb c) ∧ Own w.heap.size w w18 (some (vch xb 3 f.m (fun b => iv (nb b))) :: some (vch hb 3 f.m (fun b => iv (f.cnt l b))) :: some (vch ob 3 f.n (fun g => iv (l g))) :: some (vch b1 3 1 (fun _ => iv (-1))) :: [])) (fun (again : Bool) (l : Int → Int) (nb : Int → Int) => leftB f nb) (again) (l) (nb) ?_ (And.intro (by rfl) (And.intro rfl (And.intro rfl (And.intro rfl (And.intro rfl (And.intro rfl (And.intro rfl (And.intro rfl trivial)))))))) ?_
   ·exact ⟨hA, hle, hlt, hd, hO⟩
   intro again l nb w18 hIw18 ih19
   obtain ⟨hA, hle, hlt, hd, hO⟩ := hIw18
   show Run _ _ _ _ [(6, _), (0, _), (3, _), (4, _), (5, _), (7, _), (38, _), (39, _)] _ _
   have hnb := hA.nbr b hb0 h2
   have hcb := hA.cnt b hb0 h2
   have hblr := hs.bl b hb0 h2
   refine run_seq <| run_seq <| run_quiet mixed (by kernel_rfl) ?_
   refine rq_v rfl rfl rfl (fun _ => ov_move rfl rfl) ?_
   refine rq_v rfl rfl rfl (fun _ => ov_move rfl rfl) ?_
   refine rq_v rfl rfl rfl (fun _ => ov_index1 rfl Tryz.underlying23 (by kernel_rfl) rfl rfl ⟨by omega, by omega⟩ (by rfl)) ?_
   refine rq_v rfl rfl rfl (fun _ => ov_load rfl Tryz.underlying3 rfl rfl (by show World.cell? w18 _ = _; first | exact hl _ hO.below rfl | exact hqrow _ hO.below _ (by omega) (by omega) | exact hrow _ hO.below _ (by omega) (by omega) | exact hel _ hO.below _ (by omega) (by omega) _ (by omega) (by omega) | exact hO.cellI 0 rfl _ (by omega) (by omega) | exact hO.cellL 0 rfl rfl | exact hO.cellI 1 rfl _ (by omega) (by omega) | exact hO.cellL 1 rfl rfl | exact hO.cellI 2 rfl _ (by omega) (by omega) | exact hO.cellL 2 rfl rfl | exact hO.cellI 3 rfl _ (by omega) (by omega) | exact hO.cellL 3 rfl rfl | exact hO.cellI 4 rfl _ (by omega) (by omega) | exact hO.cellL 4 rfl rfl | exact hO.cellI 5 rfl _ (by omega) (by omega) | exact hO.cellL 5 rfl rfl)) ?_
   refine rq_v rfl rfl rfl (fun _ => ov_move rfl rfl) ?_
   refine rq_v rfl rfl rfl (fun _ => ov_nil rfl rfl) ?_
   refine rq_v rfl rfl rfl (fun _ => ov_fieldS rfl Tryz.underlying100 rfl (fo := 0) rfl (by kernel_rfl) rfl) ?_
   refine rq_v rfl rfl rfl (fun _ => ov_fieldS rfl Tryz.underlying27 rfl (fo := 2) rfl (by kernel_rfl) rfl) ?_
   refine rq_v rfl rfl rfl (fun _ => ov_load rfl Tryz.underlying23 rfl rfl (by show World.cell? w18 _ = _; first | exact hl _ hO.below rfl | exact hqrow _ hO.below _ (by omega) (by omega) | exact hrow _ hO.below _ (by omega) (by omega) | exact hel _ hO.below _ (by omega) (by omega) _ (by omega) (by omega) | exact hO.cellI 0 rfl _ (by omega) (by omega) | exact hO.cellL 0 rfl rfl | exact hO.cellI 1 rfl _ (by omega) (by omega) | exact hO.cellL 1 rfl rfl | exact hO.cellI 2 rfl _ (by omega) (by omega) | exact hO.cellL 2 rfl rfl | exact hO.cellI 3 rfl _ (by omega) (by omega) | exact hO.cellL 3 rfl rfl | exact hO.cellI 4 rfl _ (by omega) (by omega) | exact hO.cellL 4 rfl rfl | exact hO.cellI 5 rfl _ (by omega) (by omega) | exact hO.cellL 5 rfl rfl)) ?_
   refine rq_v rfl rfl rfl (fun _ => ov_move rfl rfl) ?_
   refine rq_v rfl rfl rfl (fun _ => ov_index1 rfl Tryz.underlying23 (by kernel_rfl) rfl rfl ⟨by omega, by omega⟩ (by exact hqa (by omega))) ?_
   refine rq_v rfl rfl rfl (fun _ => ov_load rfl Tryz.underlying3 rfl rfl (by show World.cell? w18 _ = _; first | exact hl _ hO.below rfl | exact hqrow _ hO.below _ (by omega) (by omega) | exact hrow _ hO.below _ (by omega) (by omega) | exact hel _ hO.below _ (by omega) (by omega) _ (by omega) (by omega) | exact hO.cellI 0 rfl _ (by omega) (by omega) | exact hO.cellL 0 rfl rfl | exact hO.cellI 1 rfl _ (by omega) (by omega) | exact hO.cellL 1 rfl rfl | exact hO.cellI 2 rfl _ (by omega) (by omega) | exact hO.cellL 2 rfl rfl | exact hO.cellI 3 rfl _ (by omega) (by omega) | exact hO.cellL 3 rfl rfl | exact hO.cellI 4 rfl _ (by omega) (by omega) | exact hO.cellL 4 rfl rfl | exact hO.cellI 5 rfl _ (by omega) (by omega) | exact hO.cellL 5 rfl rfl)) ?_
   refine rq_v rfl rfl rfl (fun _ => ov_lss rfl rfl rfl) ?_
   refine rq_v rfl rfl rfl (fun _ => ov_move rfl rfl) ?_
   first | refine rq_split_dec 55 rfl (fun g1 => ?_) (fun g1 => ?_) | refine rq_split 55 rfl (fun g1 => ?_) (fun g1 => ?_)
   ·refine rq_gv rfl rfl rfl rfl rfl (fun _ => ov_move rfl rfl) ?_
    refine rq_gv rfl rfl rfl rfl rfl (fun _ => ov_move rfl rfl) ?_
    refine rq_gv rfl rfl rfl rfl rfl (fun _ => ov_index1 rfl Tryz.underlying23 (by kernel_rfl) rfl rfl ⟨by omega, by omega⟩ (by rfl)) ?_
    refine rq_gv rfl rfl rfl rfl rfl (fun _ => ov_load rfl Tryz.underlying3 rfl rfl (by show World.cell? w18 _ = _; first | exact hl _ hO.below rfl | exact hqrow _ hO.below _ (by omega) (by omega) | exact hrow _ hO.below _ (by omega) (by omega) | exact hel _ hO.below _ (by omega) (by omega) _ (by omega) (by omega) | exact hO.cellI 0 rfl _ (by omega) (by omega) | exact hO.cellL 0 rfl rfl | exact hO.cellI 1 rfl _ (by omega) (by omega) | exact hO.cellL 1 rfl rfl | exact hO.cellI 2 rfl _ (by omega) (by omega) | exact hO.cellL 2 rfl rfl | exact hO.cellI 3 rfl _ (by omega) (by omega) | exact hO.cellL 3 rfl rfl | exact hO.cellI 4 rfl _ (by omega) (by omega) | exact hO.cellL 4 rfl rfl | exact hO.cellI 5 rfl _ (by omega) (by omega) | exact hO.cellL 5 rfl rfl)) ?_
    refine rq_gv rfl rfl rfl rfl rfl (fun _ => ov_move rfl rfl) ?_
    refine rq_gv rfl rfl rfl rfl rfl (fun _ => ov_nil rfl rfl) ?_
    refine rq_gv rfl rfl rfl rfl rfl (fun _ => ov_fieldS rfl Tryz.underlying100 rfl (fo := 0) rfl (by kernel_rfl) rfl) ?_
    refine rq_gv rfl rfl rfl rfl rfl (fun _ => ov_fieldS rfl Tryz.underlying27 rfl (fo := 1) rfl (by kernel_rfl) rfl) ?_
    refine rq_gv rfl rfl rfl rfl rfl (fun _ => ov_load rfl Tryz.underlying22 rfl rfl (by show World.cell? w18 _ = _; first | exact hl _ hO.below rfl | exact hqrow _ hO.below _ (by omega) (by omega) | exact hrow _ hO.below _ (by omega) (by omega) | exact hel _ hO.below _ (by omega) (by omega) _ (by omega) (by omega) | exact hO.cellI 0 rfl _ (by omega) (by omega) | exact hO.cellL 0 rfl rfl | exact hO.cellI 1 rfl _ (by omega) (by omega) | exact hO.cellL 1 rfl rfl | exact hO.cellI 2 rfl _ (by omega) (by omega) | exact hO.cellL 2 rfl rfl | exact hO.cellI 3 rfl _ (by omega) (by omega) | exact hO.cellL 3 rfl rfl | exact hO.cellI 4 rfl _ (by omega) (by omega) | exact hO.cellL 4 rfl rfl | exact hO.cellI 5 rfl _ (by omega) (by omega) | exact hO.cellL 5 rfl rfl)) ?_
    refine rq_gv rfl rfl rfl rfl rfl (fun _ => ov_move rfl rfl) ?_
    refine rq_gv rfl rfl rfl rfl rfl (fun _ => ov_index1 rfl Tryz.underlying22 (by kernel_rfl) rfl rfl ⟨by omega, by omega⟩ (by exact hga (by omega))) ?_
    refine rq_gv rfl rfl rfl rfl rfl (fun _ => ov_load rfl Tryz.underlying23 rfl rfl (by show World.cell? w18 _ = _; first | exact hl _ hO.below rfl | exact hqrow _ hO.below _ (by omega) (by omega) | exact hrow _ hO.below _ (by omega) (by omega) | exact hel _ hO.below _ (by omega) (by omega) _ (by omega) (by omega) | exact hO.cellI 0 rfl _ (by omega) (by omega) | exact hO.cellL 0 rfl rfl | exact hO.cellI 1 rfl _ (by omega) (by omega) | exact hO.cellL 1 rfl rfl | exact hO.cellI 2 rfl _ (by omega) (by omega) | exact hO.cellL 2 rfl rfl | exact hO.cellI 3 rfl _ (by omega) (by omega) | exact hO.cellL 3 rfl rfl | exact hO.cellI 4 rfl _ (by omega) (by omega) | exact hO.cellL 4 rfl rfl | exact hO.cellI 5 rfl _ (by omega) (by omega) | exact hO.cellL 5 rfl rfl)) ?_
    refine rq_gv rfl rfl rfl rfl rfl (fun _ => ov_len rfl Tryz.underlying23 rfl) ?_
    refine rq_gv rfl rfl rfl rfl rfl (fun _ => ov_lss rfl rfl rfl) ?_
    refine rq_v rfl rfl rfl (fun _ => ov_pick_t rfl rfl rfl) ?_
    refine rq_nil (fun n21 => ?_)
    have hO23 := hO.drewN n21
    generalize World.drewN w18 n21 = w22 at hO23 ⊢
    first | refine run_cond_dec rfl (fun h3 => ?_) (fun h3 => ?_) | refine run_cond rfl (fun h3 => ?_) (fun h3 => ?_)
    ·obtain ⟨g, hg⟩ : ∃ g, g = f.be b (nb b) := ⟨_, rfl⟩
     have hgr := hf.br b (nb b) hb0 h2 hnb.1 h3
     have hfr := hA.fresh hf hb0 h2 h3
     have hleft := leftB_upd hA hb0 h2 h3
     have hskip := hA.skip hf hb0 h2 h3
     have htake := hA.take hf hb0 h2 h3
     rw [← hg] at hgr hfr hskip htake
     obtain ⟨g0, g1'⟩ := hgr
     have hlk : l g < 0 ∨ f.rg g (l g) < f.gl g := by
      by_cases e : l g = -1
      ·exact .inl (by omega)
      ·exact .inr (hA.at_ g g0 g1' e).2.1.1
     have hlr : l g = -1 ∨ (0 ≤ l g ∧ l g < f.m) := by
      by_cases e : l g = -1
      ·exact .inl e
      ·exact .inr (hA.at_ g g0 g1' e).1
     have hcb0 := Fair.cnt_nonneg f l b
     have hcbn := cnt_le f l b
     have hco0 := Fair.cnt_nonneg f l (l g)
     have hcon := cnt_le f l (l g)
     have hdn : ∀ (c : Int), 0 ≤ c → c < b → Done f l nb c → Done f l (upd nb b (nb b + 1)) c := fun c c0 c1 h => by
      unfold Done at h ⊢
      rw [upd_ne _ _ (by omega)]
      exact h
     refine run_skip <| run_block <| run_seq <| run_quiet mixed (by kernel_rfl) ?_
     refine rq_v rfl rfl rfl (fun _ => ov_move rfl rfl) ?_
     refine rq_v rfl rfl rfl (fun _ => ov_nil rfl rfl) ?_
     refine rq_v rfl rfl rfl (fun _ => ov_fieldS rfl Tryz.underlying100 rfl (fo := 0) rfl (by kernel_rfl) rfl) ?_
     refine rq_v rfl rfl rfl (fun _ => ov_fieldS rfl Tryz.underlying27 rfl (fo := 1) rfl (by kernel_rfl) rfl) ?_
     refine rq_v rfl rfl rfl (fun _ => ov_load rfl Tryz.underlying22 rfl rfl (by show World.cell? w22 _ = _; first | exact hl _ hO23.below rfl | exact hqrow _ hO23.below _ (by omega) (by omega) | exact hrow _ hO23.below _ (by omega) (by omega) | exact hel _ hO23.below _ (by omega) (by omega) _ (by omega) (by omega) | exact hO23.cellI 0 rfl _ (by omega) (by omega) | exact hO23.cellL 0 rfl rfl | exact hO23.cellI 1 rfl _ (by omega) (by omega) | exact hO23.cellL 1 rfl rfl | exact hO23.cellI 2 rfl _ (by omega) (by omega) | exact hO23.cellL 2 rfl rfl | exact hO23.cellI 3 rfl _ (by omega) (by omega) | exact hO23.cellL 3 rfl rfl | exact hO23.cellI 4 rfl _ (by omega) (by omega) | exact hO23.cellL 4 rfl rfl | exact hO23.cellI 5 rfl _ (by omega) (by omega) | exact hO23.cellL 5 rfl rfl)) ?_
     refine rq_v rfl rfl rfl (fun _ => ov_move rfl rfl) ?_
     refine rq_v rfl rfl rfl (fun _ => ov_index1 rfl Tryz.underlying22 (by kernel_rfl) rfl rfl ⟨by omega, by omega⟩ (by exact hga (by omega))) ?_
     refine rq_v rfl rfl rfl (fun _ => ov_load rfl Tryz.underlying23 rfl rfl (by show World.cell? w22 _ = _; first | exact hl _ hO23.below rfl | exact hqrow _ hO23.below _ (by omega) (by omega) | exact hrow _ hO23.below _ (by omega) (by omega) | exact hel _ hO23.below _ (by omega) (by omega) _ (by omega) (by omega) | exact hO23.cellI 0 rfl _ (by omega) (by omega) | exact hO23.cellL 0 rfl rfl | exact hO23.cellI 1 rfl _ (by omega) (by omega) | exact hO23.cellL 1 rfl rfl | exact hO23.cellI 2 rfl _ (by omega) (by omega) | exact hO23.cellL 2 rfl rfl | exact hO23.cellI 3 rfl _ (by omega) (by omega) | exact hO23.cellL 3 rfl rfl | exact hO23.cellI 4 rfl _ (by omega) (by omega) | exact hO23.cellL 4 rfl rfl | exact hO23.cellI 5 rfl _ (by omega) (by omega) | exact hO23.cellL 5 rfl rfl)) ?_
     refine rq_v rfl rfl rfl (fun _ => ov_move rfl rfl) ?_
     refine rq_v rfl rfl rfl (fun _ => ov_move rfl rfl) ?_
     refine rq_v rfl rfl rfl (fun _ => ov_index1 rfl Tryz.underlying23 (by kernel_rfl) rfl rfl ⟨by omega, by omega⟩ (by rfl)) ?_
     refine rq_v rfl rfl rfl (fun _ => ov_load rfl Tryz.underlying3 rfl rfl (by show World.cell? w22 _ = _; first | exact hl _ hO23.below rfl | exact hqrow _ hO23.below _ (by omega) (by omega) | exact hrow _ hO23.below _ (by omega) (by omega) | exact hel _ hO23.below _ (by omega) (by omega) _ (by omega) (by omega) | exact hO23.cellI 0 rfl _ (by omega) (by omega) | exact hO23.cellL 0 rfl rfl | exact hO23.cellI 1 rfl _ (by omega) (by omega) | exact hO23.cellL 1 rfl rfl | exact hO23.cellI 2 rfl _ (by omega) (by omega) | exact hO23.cellL 2 rfl rfl | exact hO23.cellI 3 rfl _ (by omega) (by omega) | exact hO23.cellL 3 rfl rfl | exact hO23.cellI 4 rfl _ (by omega) (by omega) | exact hO23.cellL 4 rfl rfl | exact hO23.cellI 5 rfl _ (by omega) (by omega) | exact hO23.cellL 5 rfl rfl)) ?_
     refine rq_v rfl rfl rfl (fun _ => ov_index1 rfl Tryz.underlying23 (by kernel_rfl) rfl rfl ⟨by omega, by omega⟩ (by exact hra b hb0 h2 (by omega))) ?_
     refine rq_v rfl rfl rfl (fun _ => ov_load rfl Tryz.underlying3 rfl rfl (by show World.cell? w22 _ = _; first | exact (hel _ hO23.below b hb0 h2 (nb b) hnb.1 h3).trans (congrArg some (congrArg iv hg.symm)))) ?_
     refine rq_v rfl rfl rfl (fun _ => ov_assign rfl rfl) ?_
     refine rq_nil (fun n24 => ?_)
     have hO26 := hO23.drewN n24
     generalize World.drewN w22 n24 = w25 at hO26 ⊢
     refine run_seq <| run_region <| rl_v rfl rfl rfl (ov_move rfl rfl) <| rl_v rfl rfl rfl (ov_move rfl rfl) <| rl_v rfl rfl rfl (ov_index1 rfl Tryz.underlying23 (by kernel_rfl) rfl rfl ⟨by omega, by omega⟩ (by rfl)) ?_
     refine rl_v rfl rfl rfl (ov_load rfl Tryz.underlying3 rfl rfl (by exact hO26.cellI 0 rfl _ (by omega) (by omega))) ?_
     refine rl_v rfl rfl rfl (ov_add rfl rfl rfl (by omega)) ?_
     refine rl_v rfl rfl rfl (ov_index1 rfl Tryz.underlying23 (by kernel_rfl) rfl rfl ⟨by omega, by omega⟩ (by rfl)) ?_
     refine rl_ow rfl (ow_storeI rfl rfl (by kernel_rfl) hO26 0 rfl rfl ⟨by omega, by omega⟩ rfl) ?_
     rintro _ w27 ⟨rfl, hO28, hs29⟩
     refine rl_nil <| run_seq <| run_seq <| run_region <| rl_v rfl rfl rfl (ov_move rfl rfl) <| rl_v rfl rfl rfl (ov_move rfl rfl) <| rl_v rfl rfl rfl (ov_move rfl rfl) ?_
     refine rl_call callable_79 rfl rfl rfl rfl rfl rfl (knows_any tb f _ g b hf (hO28.pt hpt) g0 g1' hb0 h2) (fun e30 w31 hp32 => ?_)
     obtain ⟨rfl, hbk⟩ := hp32
     refine ⟨_, rfl, ?_⟩
     have hO33 := hO28.past hbk
     refine rl_v rfl rfl rfl (ov_not rfl rfl) <| rl_v rfl rfl rfl (ov_move rfl rfl) ?_
     first | refine rl_split_dec 96 rfl (fun hq0 => ?_) (fun hq0 => ?_) | refine rl_split 96 rfl (fun hq0 => ?_) (fun hq0 => ?_)
     ·refine rl_gskip rfl rfl rfl rfl rfl rfl <| rl_gskip rfl rfl rfl rfl rfl rfl <| rl_gskip rfl rfl rfl rfl rfl rfl <| rl_gskip rfl rfl rfl rfl rfl rfl <| rl_gskip rfl rfl rfl rfl rfl rfl <| rl_gskip rfl rfl rfl rfl rfl rfl <| rl_gskip rfl rfl rfl rfl rfl rfl <| rl_gskip rfl rfl rfl rfl rfl rfl <| rl_gskip rfl rfl rfl rfl rfl rfl <| rl_gskip rfl rfl rfl rfl rfl rfl <| rl_gskip rfl rfl rfl rfl rfl rfl <| rl_gskip rfl rfl rfl rfl rfl rfl <| rl_v rfl rfl rfl (ov_pick_t rfl rfl rfl) <| rl_nil <| run_cond_t rfl ?_
      have hnk : ¬ f.know g b := by simpa using hq0
      refine run_exit rfl ?_
      refine Run.use (ih19 (again) (l) (upd nb b (nb b + 1)) _ ?_ ?_) (And.intro (by rfl) (And.intro rfl (And.intro rfl (And.intro rfl (And.intro rfl (And.intro rfl (And.intro rfl (And.intro rfl trivial))))))))
      ·first | omega | (dsimp only; omega)
      ·exact ⟨hskip (.inl hnk), by omega, fun e => by have := hlt e; omega, fun e c c0 c1 => hdn c c0 c1 (hd e c c0 c1), hO33⟩
     ·have hk : f.know g b := by simpa using hq0
      have hrm : f.rg g b < f.m := by have := hk.1; have := hf.glm g0 g1'; omega
      refine rl_gv rfl rfl rfl rfl rfl (ov_move rfl rfl) <| rl_gv rfl rfl rfl rfl rfl (ov_move rfl rfl) <| rl_gv rfl rfl rfl rfl rfl (ov_move rfl rfl) <| rl_gv rfl rfl rfl rfl rfl (ov_move rfl rfl) <| rl_gv rfl rfl rfl rfl rfl (ov_index1 rfl Tryz.underlying23 (by kernel_rfl) rfl rfl ⟨by omega, by omega⟩ (by rfl)) ?_
      refine rl_gv rfl rfl rfl rfl rfl (ov_load rfl Tryz.underlying3 rfl rfl (by exact hO33.cellI 2 rfl _ (by omega) (by omega))) ?_
      refine rl_gcall callable_82 rfl rfl rfl rfl rfl rfl rfl rfl (likes_any tb f _ g (l g) hf (hO33.pt hpt) g0 g1' hlk) (fun e35 w36 hp37 => ?_)
      obtain ⟨rfl, hbl1⟩ := hp37
      refine ⟨_, rfl, ?_⟩
      have hO38 := hO33.past hbl1
      refine rl_gv rfl rfl rfl rfl rfl (ov_move rfl rfl) <| rl_gv rfl rfl rfl rfl rfl (ov_move rfl rfl) <| rl_gv rfl rfl rfl rfl rfl (ov_move rfl rfl) ?_
      refine rl_gcall callable_82 rfl rfl rfl rfl rfl rfl rfl rfl (likes_any tb f _ g b hf (hO38.pt hpt) g0 g1' (.inr hk.1)) (fun e39 w40 hp41 => ?_)
      obtain ⟨rfl, hbl2⟩ := hp41
      refine ⟨_, rfl, ?_⟩
      have hO42 := hO38.past hbl2
      refine rl_gv rfl rfl rfl rfl rfl (ov_lss rfl rfl rfl) <| rl_v rfl rfl rfl (ov_pick_f rfl rfl rfl) <| rl_nil ?_
      first | refine run_cond_dec rfl (fun h4 => ?_) (fun h4 => ?_) | refine run_cond rfl (fun h4 => ?_) (fun h4 => ?_)
      ·have hsk : 0 ≤ l g ∧ f.rg g (l g) < f.rg g b := by
        rw [if_neg (show ¬ b < 0 by omega)] at h4
        by_cases e : l g < 0
        ·rw [if_pos e] at h4; omega
        ·rw [if_neg e] at h4; exact ⟨by omega, h4⟩
       refine run_exit rfl ?_
       refine Run.use (ih19 (again) (l) (upd nb b (nb b + 1)) _ ?_ ?_) (And.intro (by rfl) (And.intro rfl (And.intro rfl (And.intro rfl (And.intro rfl (And.intro rfl (And.intro rfl (And.intro rfl trivial))))))))
       ·first | omega | (dsimp only; omega)
       ·exact ⟨hskip (.inr hsk), by omega, fun e => by have := hlt e; omega, fun e c c0 c1 => hdn c c0 c1 (hd e c c0 c1), hO42⟩
      ·have htk : ¬ (0 ≤ l g ∧ f.rg g (l g) < f.rg g b) := fun ⟨e1, e2⟩ => h4 (by rw [if_neg (show ¬ b < 0 by omega), if_neg (show ¬ l g < 0 by omega)]; exact e2)
       have hT := htake hk htk g1
       refine run_skip <| run_seq <| run_seq <| run_region <| rl_v rfl rfl rfl (ov_move rfl rfl) <| rl_v rfl rfl rfl (ov_move rfl rfl) <| rl_v rfl rfl rfl (ov_index1 rfl Tryz.underlying23 (by kernel_rfl) rfl rfl ⟨by omega, by omega⟩ (by rfl)) ?_
       refine rl_v rfl rfl rfl (ov_load rfl Tryz.underlying3 rfl rfl (by exact hO42.cellI 2 rfl _ (by omega) (by omega))) ?_
       refine rl_v rfl rfl rfl (ov_assign rfl rfl) <| rl_nil <| run_seq <| run_region <| rl_v rfl rfl rfl (ov_move rfl rfl) <| rl_v rfl rfl rfl (ov_geq rfl rfl rfl) <| rl_nil ?_
       first | refine run_cond_dec rfl (fun h5 => ?_) (fun h5 => ?_) | refine run_cond rfl (fun h5 => ?_) (fun h5 => ?_)
       ·have hu : upd (f.cnt l) (l g) (f.cnt l (l g) - 1) b = f.cnt l b := upd_ne _ _ (fun e => hfr e.symm)
        refine run_seq <| run_region <| rl_v rfl rfl rfl (ov_move rfl rfl) <| rl_v rfl rfl rfl (ov_move rfl rfl) <| rl_v rfl rfl rfl (ov_index1 rfl Tryz.underlying23 (by kernel_rfl) rfl rfl ⟨by omega, by omega⟩ (by rfl)) ?_
        refine rl_v rfl rfl rfl (ov_load rfl Tryz.underlying3 rfl rfl (by exact hO42.cellI 1 rfl _ (by omega) (by omega))) ?_
        refine rl_v rfl rfl rfl (ov_sub rfl rfl rfl (by omega)) ?_
        refine rl_v rfl rfl rfl (ov_index1 rfl Tryz.underlying23 (by kernel_rfl) rfl rfl ⟨by omega, by omega⟩ (by rfl)) ?_
        refine rl_ow rfl (ow_storeI rfl rfl (by kernel_rfl) hO42 1 rfl rfl ⟨by omega, by omega⟩ rfl) ?_
        rintro _ w43 ⟨rfl, hO44, hs45⟩
        refine rl_nil <| run_region <| rl_v rfl rfl rfl (ov_assign rfl rfl) <| rl_nil <| run_seq <| run_region <| rl_v rfl rfl rfl (ov_move rfl rfl) <| rl_v rfl rfl rfl (ov_move rfl rfl) <| rl_v rfl rfl rfl (ov_move rfl rfl) <| rl_v rfl rfl rfl (ov_index1 rfl Tryz.underlying23 (by kernel_rfl) rfl rfl ⟨by omega, by omega⟩ (by rfl)) ?_
        refine rl_ow rfl (ow_storeI rfl rfl (by kernel_rfl) hO44 2 rfl rfl ⟨by omega, by omega⟩ rfl) ?_
        rintro _ w46 ⟨rfl, hO47, hs48⟩
        refine rl_nil <| run_region <| rl_v rfl rfl rfl (ov_move rfl rfl) <| rl_v rfl rfl rfl (ov_move rfl rfl) <| rl_v rfl rfl rfl (ov_index1 rfl Tryz.underlying23 (by kernel_rfl) rfl rfl ⟨by omega, by omega⟩ (by rfl)) ?_
        refine rl_v rfl rfl rfl (ov_load rfl Tryz.underlying3 rfl rfl (by exact hO47.cellI 1 rfl _ (by omega) (by omega))) ?_
        refine rl_v rfl rfl rfl (ov_add rfl rfl rfl (by omega)) ?_
        refine rl_v rfl rfl rfl (ov_index1 rfl Tryz.underlying23 (by kernel_rfl) rfl rfl ⟨by omega, by omega⟩ (by rfl)) ?_
        refine rl_ow rfl (ow_storeI rfl rfl (by kernel_rfl) hO47 1 rfl rfl ⟨by omega, by omega⟩ rfl) ?_
        rintro _ w49 ⟨rfl, hO50, hs51⟩
        have hhas : ∀ c : Int, 0 ≤ c → c < f.m → iv (upd (upd (f.cnt l) (l g) (f.cnt l (l g) - 1)) b (upd (f.cnt l) (l g) (f.cnt l (l g) - 1) b + 1) c) = iv (f.cnt (upd l g b) c) := fun c c0 c1 => by
         rw [hu, Fair.cnt_upd g0 g1']
         by_cases e1 : c = b
         ·rw [e1, upd_same, if_neg hfr, if_pos rfl]; congr 1; omega
         ·rw [upd_ne _ _ e1, if_neg (show ¬ b = c from fun e => e1 e.symm)]
          by_cases e2 : c = l g
          ·rw [e2, upd_same, if_pos rfl]; congr 1; omega
          ·rw [upd_ne _ _ e2, if_neg (show ¬ l g = c from fun e => e2 e.symm)]; congr 1; omega
        refine rl_nil <| run_inBlock ?_
        refine Run.use (ih19 (true) (upd l g b) (upd nb b (nb b + 1)) _ ?_ ?_) (And.intro (by rfl) (And.intro rfl (And.intro rfl (And.intro rfl (And.intro rfl (And.intro rfl (And.intro rfl (And.intro rfl trivial))))))))
        ·first | omega | (dsimp only; omega)
        ·exact ⟨hT, by omega, fun _ => by omega, (fun e => by cases e), hO50.congrI 1 rfl hhas⟩
       ·refine run_skip <| run_seq <| run_region <| rl_v rfl rfl rfl (ov_move rfl rfl) <| rl_v rfl rfl rfl (ov_move rfl rfl) <| rl_v rfl rfl rfl (ov_move rfl rfl) <| rl_v rfl rfl rfl (ov_index1 rfl Tryz.underlying23 (by kernel_rfl) rfl rfl ⟨by omega, by omega⟩ (by rfl)) ?_
        refine rl_ow rfl (ow_storeI rfl rfl (by kernel_rfl) hO42 2 rfl rfl ⟨by omega, by omega⟩ rfl) ?_
        rintro _ w52 ⟨rfl, hO53, hs54⟩
        refine rl_nil <| run_region <| rl_v rfl rfl rfl (ov_move rfl rfl) <| rl_v rfl rfl rfl (ov_move rfl rfl) <| rl_v rfl rfl rfl (ov_index1 rfl Tryz.underlying23 (by kernel_rfl) rfl rfl ⟨by omega, by omega⟩ (by rfl)) ?_
        refine rl_v rfl rfl rfl (ov_load rfl Tryz.underlying3 rfl rfl (by exact hO53.cellI 1 rfl _ (by omega) (by omega))) ?_
        refine rl_v rfl rfl rfl (ov_add rfl rfl rfl (by omega)) ?_
        refine rl_v rfl rfl rfl (ov_index1 rfl Tryz.underlying23 (by kernel_rfl) rfl rfl ⟨by omega, by omega⟩ (by rfl)) ?_
        refine rl_ow rfl (ow_storeI rfl rfl (by kernel_rfl) hO53 1 rfl rfl ⟨by omega, by omega⟩ rfl) ?_
        rintro _ w55 ⟨rfl, hO56, hs57⟩
        have hlg : l g = -1 := by omega
        have hhas : ∀ c : Int, 0 ≤ c → c < f.m → iv (upd (f.cnt l) b (f.cnt l b + 1) c) = iv (f.cnt (upd l g b) c) := fun c c0 c1 => by
         rw [Fair.cnt_upd g0 g1', hlg, if_neg (show ¬ (-1 : Int) = c by omega)]
         by_cases e1 : c = b
         ·rw [e1, upd_same, if_pos rfl]; congr 1; omega
         ·rw [upd_ne _ _ e1, if_neg (show ¬ b = c from fun e => e1 e.symm)]; congr 1; omega
        have hdt : ∀ c : Int, 0 ≤ c → c < b → Done f l nb c → Done f (upd l g b) (upd nb b (nb b + 1)) c := fun c c0 c1 h => by
         unfold Done at h ⊢
         rw [upd_ne _ _ (by omega), Fair.cnt_upd g0 g1', hlg, if_neg (show ¬ (-1 : Int) = c by omega), if_neg (show ¬ b = c by omega)]
         rcases h with h | h
         ·exact .inl (by omega)
         ·exact .inr h
        refine rl_nil <| run_inBlock ?_
        refine Run.use (ih19 (again) (upd l g b) (upd nb b (nb b + 1)) _ ?_ ?_) (And.intro (by rfl) (And.intro rfl (And.intro rfl (And.intro rfl (And.intro rfl (And.intro rfl (And.intro rfl (And.intro rfl trivial))))))))
        ·first | omega | (dsimp only; omega)
        ·exact ⟨hT, by omega, fun e => by have := hlt e; omega, fun e c c0 c1 => hdt c c0 c1 (hd e c c0 c1), hO56.congrI 1 rfl hhas⟩
    ·have hdb : Done f l nb b := .inr (by omega)
     refine run_exit rfl <| run_inBlock <| run_region <| rl_v rfl rfl rfl (ov_add rfl rfl rfl (by omega)) ?_
     refine rl_v rfl rfl rfl (ov_move rfl rfl) <| rl_nil ?_
     refine Run.use (ih17 (b + 1) (again) (l) (nb) _ ?_ ?_) (And.intro (by exact slot_int rfl (by first | omega)) (And.intro (by rfl) (And.intro rfl (And.intro rfl (And.intro rfl (And.intro rfl (And.intro rfl trivial)))))))
     ·first | omega | (dsimp only; omega)
     ·exact ⟨by omega, by omega, hA, hle, hlt, fun e c c0 c1 => by by_cases e2 : c = b; (rw [e2]; exact hdb); (exact hd e c c0 (by omega)), hO23⟩
   ·refine rq_gskip rfl rfl rfl rfl rfl rfl <| rq_gskip rfl rfl rfl rfl rfl rfl <| rq_gskip rfl rfl rfl rfl rfl rfl <| rq_gskip rfl rfl rfl rfl rfl rfl <| rq_gskip rfl rfl rfl rfl rfl rfl <| rq_gskip rfl rfl rfl rfl rfl rfl <| rq_gskip rfl rfl rfl rfl rfl rfl <| rq_gskip rfl rfl rfl rfl rfl rfl <| rq_gskip rfl rfl rfl rfl rfl rfl <| rq_gskip rfl rfl rfl rfl rfl rfl <| rq_gskip rfl rfl rfl rfl rfl rfl <| rq_gskip rfl rfl rfl rfl rfl rfl <| rq_gskip rfl rfl rfl rfl rfl rfl <| rq_gskip rfl rfl rfl rfl rfl rfl <| rq_v rfl rfl rfl (fun _ => ov_pick_f rfl rfl rfl) ?_
    refine rq_nil (fun n58 => ?_)
    have hO60 := hO.drewN n58
    generalize World.drewN w18 n58 = w59 at hO60 ⊢
    refine run_cond_f rfl ?_
    have hdb : Done f l nb b := .inl (by omega)
    refine run_exit rfl <| run_inBlock <| run_region <| rl_v rfl rfl rfl (ov_add rfl rfl rfl (by omega)) ?_
    refine rl_v rfl rfl rfl (ov_move rfl rfl) <| rl_nil ?_
    refine Run.use (ih17 (b + 1) (again) (l) (nb) _ ?_ ?_) (And.intro (by exact slot_int rfl (by first | omega)) (And.intro (by rfl) (And.intro rfl (And.intro rfl (And.intro rfl (And.intro rfl (And.intro rfl trivial)))))))
    ·first | omega | (dsimp only; omega)
    ·exact ⟨by omega, by omega, hA, hle, hlt, fun e c c0 c1 => by by_cases e2 : c = b; (rw [e2]; exact hdb); (exact hd e c c0 (by omega)), hO60⟩
  ·refine run_exit rfl <| run_inBlock ?_
   refine Run.use (ih15 (again) (l) (nb) _ ?_ ?_) (And.intro (by rfl) (And.intro rfl (And.intro rfl (And.intro rfl (And.intro rfl trivial)))))
   ·(cases again; (simp; omega); (have := hlt rfl; simp; omega))
   ·exact ⟨hA, fun e c c0 c1 => hd e c c0 (by omega), hO⟩
 ·refine run_exit rfl <| run_seq <| run_region <| rl_v rfl rfl rfl (ov_move rfl rfl) <| rl_v rfl rfl rfl (ov_assign rfl rfl) <| rl_nil <| run_ret Tryz.func43 (res1 Tryz.results43 rfl) ?_
  exact ⟨ob, l, nb, rfl, hO.sub (.cons _ (.cons _ (.cons_cons _ (List.nil_sublist _)))), hA, hd h1⟩
end Go.Proofs.YtlldeifbfpmbaaaGreat
