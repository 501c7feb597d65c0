import Derived.Test.YtlldeifbfpmbaaaGreatFiA
set_option maxRecDepth 100000
namespace Go.Proofs.YtlldeifbfpmbaaaGreat
open Go.RowKit Go.Proofs Go.MapKept
section
variable (bt bb bg tb : Nat) (f : Fair) (g b : Int) (w : World) (hV : Valid5 f f.m) (hP : PT w.heap.size w tb f) (h1 : LAt w.heap.size w bt [ptr tb]) (h2 : LAt w.heap.size w bb [iv b]) (h3 : LAt w.heap.size w bg [iv g])
 (b0 : 0 ≤ b) (b1 : b < f.m) (hkg : f.rb b g < f.bl b)
include hV hP h1 h2 h3 b0 b1 hkg
theorem worse5_any (h : Int) (hkh : f.rb b h < f.bl b) : Calls Tryz.prog 90 #[iv h, ptr bt, ptr bb, ptr bg] w fun e w' => e = .returned (.bool (decide (f.rb b g < f.rb b h))) ∧ Below w.heap.size w w' := by
 obtain ⟨ga, ba, qa, ma, na, gc, bc, qc, mc, nc, hL, hF, hM, hN⟩ := id hP
 have hT := hL.open
 have hb1 := h1.open
 have hb2 := h2.open
 have hb3 := h3.open
 obtain ⟨nb, qb, qo, hqa, hqrow, hnap⟩ := hN.open
 have hlh := rkL_lkp (E := f.be b) (x := h) (hV.ok.bd b b0 b1)
 have hlg := rkL_lkp (E := f.be b) (x := g) (hV.ok.bd b b0 b1)
 have e1 : rk (f.be b) (f.bl b) h < f.bl b := hkh
 have e2 : rk (f.be b) (f.bl b) g < f.bl b := hkg
 refine calls_of_run (F := [(0, _), (1, _), (2, _), (3, _)]) Tryz.func90 rfl Tryz.ntmps90 rfl rfl ?_
 have hO0 := Own.init w
 refine run_seq <| run_region <| rl_v rfl rfl rfl (ov_assign rfl rfl) <| rl_nil <| run_seq <| run_quiet mixed (by kernel_rfl) ?_
 refine rq_v rfl rfl rfl (fun _ => ov_load rfl Tryz.underlying80 rfl rfl (by show World.cell? w _ = _; first | exact hT _ hO0.below rfl | exact hqrow _ hO0.below _ (by omega) (by omega) | exact hb1 _ hO0.below rfl | exact hb2 _ hO0.below rfl | exact hb3 _ hO0.below rfl | exact hO0.cellI 0 rfl _ (by omega) (by omega) | exact hO0.cellL 0 rfl rfl | exact hO0.cellI 1 rfl _ (by omega) (by omega) | exact hO0.cellL 1 rfl rfl | exact hO0.cellI 2 rfl _ (by omega) (by omega) | exact hO0.cellL 2 rfl rfl | exact hO0.cellI 3 rfl _ (by omega) (by omega) | exact hO0.cellL 3 rfl rfl | exact hO0.cellI 4 rfl _ (by omega) (by omega) | exact hO0.cellL 4 rfl rfl | exact hO0.cellI 5 rfl _ (by omega) (by omega) | exact hO0.cellL 5 rfl rfl)) ?_
 refine rq_v rfl rfl rfl (fun _ => ov_nil rfl rfl) ?_
 refine rq_v rfl rfl rfl (fun _ => ov_fieldS rfl Tryz.underlying100 rfl (fo := 4) rfl (by kernel_rfl) rfl) ?_
 refine rq_v rfl rfl rfl (fun _ => ov_load rfl Tryz.underlying98 rfl rfl (by show World.cell? w _ = _; first | exact hT _ hO0.below rfl | exact hqrow _ hO0.below _ (by omega) (by omega) | exact hb1 _ hO0.below rfl | exact hb2 _ hO0.below rfl | exact hb3 _ hO0.below rfl | exact hO0.cellI 0 rfl _ (by omega) (by omega) | exact hO0.cellL 0 rfl rfl | exact hO0.cellI 1 rfl _ (by omega) (by omega) | exact hO0.cellL 1 rfl rfl | exact hO0.cellI 2 rfl _ (by omega) (by omega) | exact hO0.cellL 2 rfl rfl | exact hO0.cellI 3 rfl _ (by omega) (by omega) | exact hO0.cellL 3 rfl rfl | exact hO0.cellI 4 rfl _ (by omega) (by omega) | exact hO0.cellL 4 rfl rfl | exact hO0.cellI 5 rfl _ (by omega) (by omega) | exact hO0.cellL 5 rfl rfl)) ?_
 refine rq_v rfl rfl rfl (fun _ => ov_load rfl Tryz.underlying3 rfl rfl (by show World.cell? w _ = _; first | exact hT _ hO0.below rfl | exact hqrow _ hO0.below _ (by omega) (by omega) | exact hb1 _ hO0.below rfl | exact hb2 _ hO0.below rfl | exact hb3 _ hO0.below rfl | exact hO0.cellI 0 rfl _ (by omega) (by omega) | exact hO0.cellL 0 rfl rfl | exact hO0.cellI 1 rfl _ (by omega) (by omega) | exact hO0.cellL 1 rfl rfl | exact hO0.cellI 2 rfl _ (by omega) (by omega) | exact hO0.cellL 2 rfl rfl | exact hO0.cellI 3 rfl _ (by omega) (by omega) | exact hO0.cellL 3 rfl rfl | exact hO0.cellI 4 rfl _ (by omega) (by omega) | exact hO0.cellL 4 rfl rfl | exact hO0.cellI 5 rfl _ (by omega) (by omega) | exact hO0.cellL 5 rfl rfl)) ?_
 refine rq_v rfl rfl rfl (fun _ => ov_index1 rfl Tryz.underlying98 (by kernel_rfl) rfl rfl ⟨by omega, by omega⟩ (by exact hqa (by omega))) ?_
 refine rq_v rfl rfl rfl (fun _ => ov_load rfl Tryz.underlying97 rfl rfl (by show World.cell? w _ = _; first | exact hT _ hO0.below rfl | exact hqrow _ hO0.below _ (by omega) (by omega) | exact hb1 _ hO0.below rfl | exact hb2 _ hO0.below rfl | exact hb3 _ hO0.below rfl | exact hO0.cellI 0 rfl _ (by omega) (by omega) | exact hO0.cellL 0 rfl rfl | exact hO0.cellI 1 rfl _ (by omega) (by omega) | exact hO0.cellL 1 rfl rfl | exact hO0.cellI 2 rfl _ (by omega) (by omega) | exact hO0.cellL 2 rfl rfl | exact hO0.cellI 3 rfl _ (by omega) (by omega) | exact hO0.cellL 3 rfl rfl | exact hO0.cellI 4 rfl _ (by omega) (by omega) | exact hO0.cellL 4 rfl rfl | exact hO0.cellI 5 rfl _ (by omega) (by omega) | exact hO0.cellL 5 rfl rfl)) ?_
 refine rq_v rfl rfl rfl (fun _ => ov_move rfl rfl) ?_
 refine rq_v rfl rfl rfl (fun _ => ov_lookR rfl Tryz.underlying97 Tryz.underlying3 rfl rfl rfl (hnap _ hO0.below _ (by omega) (by omega)) hlh) ?_
 refine rq_v rfl rfl rfl (fun _ => ov_load rfl Tryz.underlying80 rfl rfl (by show World.cell? w _ = _; first | exact hT _ hO0.below rfl | exact hqrow _ hO0.below _ (by omega) (by omega) | exact hb1 _ hO0.below rfl | exact hb2 _ hO0.below rfl | exact hb3 _ hO0.below rfl | exact hO0.cellI 0 rfl _ (by omega) (by omega) | exact hO0.cellL 0 rfl rfl | exact hO0.cellI 1 rfl _ (by omega) (by omega) | exact hO0.cellL 1 rfl rfl | exact hO0.cellI 2 rfl _ (by omega) (by omega) | exact hO0.cellL 2 rfl rfl | exact hO0.cellI 3 rfl _ (by omega) (by omega) | exact hO0.cellL 3 rfl rfl | exact hO0.cellI 4 rfl _ (by omega) (by omega) | exact hO0.cellL 4 rfl rfl | exact hO0.cellI 5 rfl _ (by omega) (by omega) | exact hO0.cellL 5 rfl rfl)) ?_
 refine rq_v rfl rfl rfl (fun _ => ov_nil rfl rfl) ?_
 refine rq_v rfl rfl rfl (fun _ => ov_fieldS rfl Tryz.underlying100 rfl (fo := 4) rfl (by kernel_rfl) rfl) ?_
 refine rq_v rfl rfl rfl (fun _ => ov_load rfl Tryz.underlying98 rfl rfl (by show World.cell? w _ = _; first | exact hT _ hO0.below rfl | exact hqrow _ hO0.below _ (by omega) (by omega) | exact hb1 _ hO0.below rfl | exact hb2 _ hO0.below rfl | exact hb3 _ hO0.below rfl | exact hO0.cellI 0 rfl _ (by omega) (by omega) | exact hO0.cellL 0 rfl rfl | exact hO0.cellI 1 rfl _ (by omega) (by omega) | exact hO0.cellL 1 rfl rfl | exact hO0.cellI 2 rfl _ (by omega) (by omega) | exact hO0.cellL 2 rfl rfl | exact hO0.cellI 3 rfl _ (by omega) (by omega) | exact hO0.cellL 3 rfl rfl | exact hO0.cellI 4 rfl _ (by omega) (by omega) | exact hO0.cellL 4 rfl rfl | exact hO0.cellI 5 rfl _ (by omega) (by omega) | exact hO0.cellL 5 rfl rfl)) ?_
 refine rq_v rfl rfl rfl (fun _ => ov_load rfl Tryz.underlying3 rfl rfl (by show World.cell? w _ = _; first | exact hT _ hO0.below rfl | exact hqrow _ hO0.below _ (by omega) (by omega) | exact hb1 _ hO0.below rfl | exact hb2 _ hO0.below rfl | exact hb3 _ hO0.below rfl | exact hO0.cellI 0 rfl _ (by omega) (by omega) | exact hO0.cellL 0 rfl rfl | exact hO0.cellI 1 rfl _ (by omega) (by omega) | exact hO0.cellL 1 rfl rfl | exact hO0.cellI 2 rfl _ (by omega) (by omega) | exact hO0.cellL 2 rfl rfl | exact hO0.cellI 3 rfl _ (by omega) (by omega) | exact hO0.cellL 3 rfl rfl | exact hO0.cellI 4 rfl _ (by omega) (by omega) | exact hO0.cellL 4 rfl rfl | exact hO0.cellI 5 rfl _ (by omega) (by omega) | exact hO0.cellL 5 rfl rfl)) ?_
 refine rq_v rfl rfl rfl (fun _ => ov_index1 rfl Tryz.underlying98 (by kernel_rfl) rfl rfl ⟨by omega, by omega⟩ (by exact hqa (by omega))) ?_
 refine rq_v rfl rfl rfl (fun _ => ov_load rfl Tryz.underlying97 rfl rfl (by show World.cell? w _ = _; first | exact hT _ hO0.below rfl | exact hqrow _ hO0.below _ (by omega) (by omega) | exact hb1 _ hO0.below rfl | exact hb2 _ hO0.below rfl | exact hb3 _ hO0.below rfl | exact hO0.cellI 0 rfl _ (by omega) (by omega) | exact hO0.cellL 0 rfl rfl | exact hO0.cellI 1 rfl _ (by omega) (by omega) | exact hO0.cellL 1 rfl rfl | exact hO0.cellI 2 rfl _ (by omega) (by omega) | exact hO0.cellL 2 rfl rfl | exact hO0.cellI 3 rfl _ (by omega) (by omega) | exact hO0.cellL 3 rfl rfl | exact hO0.cellI 4 rfl _ (by omega) (by omega) | exact hO0.cellL 4 rfl rfl | exact hO0.cellI 5 rfl _ (by omega) (by omega) | exact hO0.cellL 5 rfl rfl)) ?_
 refine rq_v rfl rfl rfl (fun _ => ov_load rfl Tryz.underlying3 rfl rfl (by show World.cell? w _ = _; first | exact hT _ hO0.below rfl | exact hqrow _ hO0.below _ (by omega) (by omega) | exact hb1 _ hO0.below rfl | exact hb2 _ hO0.below rfl | exact hb3 _ hO0.below rfl | exact hO0.cellI 0 rfl _ (by omega) (by omega) | exact hO0.cellL 0 rfl rfl | exact hO0.cellI 1 rfl _ (by omega) (by omega) | exact hO0.cellL 1 rfl rfl | exact hO0.cellI 2 rfl _ (by omega) (by omega) | exact hO0.cellL 2 rfl rfl | exact hO0.cellI 3 rfl _ (by omega) (by omega) | exact hO0.cellL 3 rfl rfl | exact hO0.cellI 4 rfl _ (by omega) (by omega) | exact hO0.cellL 4 rfl rfl | exact hO0.cellI 5 rfl _ (by omega) (by omega) | exact hO0.cellL 5 rfl rfl)) ?_
 refine rq_v rfl rfl rfl (fun _ => ov_lookR rfl Tryz.underlying97 Tryz.underlying3 rfl rfl rfl (hnap _ hO0.below _ (by omega) (by omega)) hlg) ?_
 refine rq_v rfl rfl rfl (fun _ => ov_gtr rfl rfl rfl) ?_
 refine rq_v rfl rfl rfl (fun _ => ov_assign rfl rfl) ?_
 refine rq_nil (fun n1 => ?_)
 have hO3 := hO0.drewN n1
 generalize World.drewN w n1 = w2 at hO3 ⊢
 refine run_ret Tryz.func90 (res1 Tryz.results90 rfl) ?_
 exact ⟨by rw [if_pos e1, if_pos e2]; rfl, hO3.below⟩
variable (ao : Option Addr) (n c : Nat) (X : Int → Int) (hn : n ≤ 1000000) (hX : IAt w.heap.size w ao n (fun i => iv (X i))) (hk : ∀ i : Int, 0 ≤ i → i < n → f.rb b (X i) < f.bl b)
include hn hX hk
theorem indexW_any :
  Calls Tryz.prog 86 #[.slice ao n c, .func (.func 90) #[] #[ptr bt, ptr bb, ptr bg]] w fun e w' => (∃ r : Int, e = .returned (iv r) ∧ ((r = -1 ∧ ∀ i : Int, 0 ≤ i → i < n → ¬ f.rb b g < f.rb b (X i)) ∨ (0 ≤ r ∧ r < n ∧ f.rb b g < f.rb b (X r)))) ∧ Below w.heap.size w w' := by
 obtain ⟨gb, go, hga, hrow⟩ := hX.open
 refine calls_of_run (F := [(0, _), (1, _)]) Tryz.func86 rfl Tryz.ntmps86 rfl rfl ?_
 have hO0 := Own.init w
 refine run_seq <| run_region <| rl_v rfl rfl rfl (ov_assign rfl rfl) <| rl_nil <| run_seq <| run_seq <| run_region <| rl_v rfl rfl rfl (ov_move rfl rfl) <| rl_v rfl rfl rfl (ov_len rfl Tryz.underlying23 rfl) <| rl_v rfl rfl rfl (ov_move rfl rfl) <| rl_nil <| run_block <| Run.keep [0, 1, 7, 8] (F' := [(0, _), (1, _), (7, _), (8, _)]) rfl <| run_loop1 (fun (k : Int) => [(8, .int .i64 k)]) [0, 1, 7] (fun (k : Int) (w1 : World) => 0 ≤ k ∧ k ≤ n ∧ (∀ i : Int, 0 ≤ i → i < k → ¬ f.rb b g < f.rb b (X i)) ∧ Own w.heap.size w w1 []) (fun (k : Int) => ((n : Int) - k).toNat) (0) ?_ (And.intro (by exact slot_int rfl (by first | omega)) (And.intro rfl (And.intro rfl (And.intro rfl trivial)))) ?_
 ·exact ⟨by omega, by omega, fun i h0 h1 => by omega, hO0⟩
 intro k w1 hIw1 ih2
 obtain ⟨hk0, hk1, hall, hO⟩ := hIw1
 show Run _ _ _ _ [(8, _), (0, _), (1, _), (7, _)] _ _
 refine run_seq <| run_region <| rl_v rfl rfl rfl (ov_lss rfl rfl rfl) <| rl_nil <| run_seq ?_
 first | refine run_cond_dec rfl (fun c1 => ?_) (fun c1 => ?_) | refine run_cond rfl (fun c1 => ?_) (fun c1 => ?_)
 ·refine run_skip <| run_seq <| run_block <| run_seq <| run_region <| rl_v rfl rfl rfl (ov_move rfl rfl) <| rl_v rfl rfl rfl (ov_assign rfl rfl) <| rl_nil <| run_seq <| run_region <| rl_v rfl rfl rfl (ov_move rfl rfl) <| rl_v rfl rfl rfl (ov_move rfl rfl) <| rl_v rfl rfl rfl (ov_move rfl rfl) <| rl_v rfl rfl rfl (ov_index1 rfl Tryz.underlying23 (by kernel_rfl) rfl rfl ⟨by omega, by omega⟩ (by exact hga (by omega))) ?_
  refine rl_v rfl rfl rfl (ov_load rfl Tryz.underlying3 rfl rfl (by exact hrow _ hO.below _ (by omega) (by omega))) ?_
  refine rl_call callable_90 rfl rfl rfl rfl rfl rfl (worse5_any bt bb bg tb f g b _ hV (hO.pt hP) ((h1.below hO.below).mono hO.size) ((h2.below hO.below).mono hO.size) ((h3.below hO.below).mono hO.size) b0 b1 hkg (X k) (hk k hk0 c1)) (fun e3 w4 hp5 => ?_)
  obtain ⟨rfl, hbl⟩ := hp5
  refine ⟨_, rfl, ?_⟩
  have hO6 := hO.past hbl
  refine rl_nil ?_
  first | refine run_cond_dec rfl (fun c2 => ?_) (fun c2 => ?_) | refine run_cond rfl (fun c2 => ?_) (fun c2 => ?_)
  ·refine run_seq <| run_region <| rl_v rfl rfl rfl (ov_move rfl rfl) <| rl_v rfl rfl rfl (ov_assign rfl rfl) <| rl_nil <| run_ret Tryz.func86 (res1 Tryz.results86 rfl) ?_
   exact ⟨⟨k, rfl, .inr ⟨hk0, c1, c2⟩⟩, hO6.below⟩
  ·refine run_skip <| run_inBlock <| run_region <| rl_v rfl rfl rfl (ov_add rfl rfl rfl (by omega)) ?_
   refine rl_v rfl rfl rfl (ov_move rfl rfl) <| rl_nil ?_
   refine Run.use (ih2 _ _ ?_ ?_) (And.intro (by rfl) (And.intro rfl (And.intro rfl (And.intro rfl trivial))))
   ·first | omega | (dsimp only; omega)
   ·exact ⟨by omega, by omega, fun i h0 h1' => (by omega : i = k ∨ i < k).elim (fun e => by rw [e]; exact c2) (fun e => hall i h0 e), hO6⟩
 ·refine run_exit rfl <| run_seq <| run_region <| rl_v rfl rfl rfl (ov_assign rfl rfl) <| rl_nil <| run_ret Tryz.func86 (res1 Tryz.results86 rfl) ?_
  exact ⟨⟨-1, rfl, .inl ⟨rfl, fun i h0 h1' => hall i h0 (by omega)⟩⟩, hO.below⟩
theorem containsW_any :
  Calls Tryz.prog 49 #[.slice ao n c, .func (.func 90) #[] #[ptr bt, ptr bb, ptr bg]] w fun e w' => (∃ y, e = .returned (.bool y) ∧ (y = true ↔ ∃ i : Int, 0 ≤ i ∧ i < n ∧ f.rb b g < f.rb b (X i))) ∧ Below w.heap.size w w' := by
 refine calls_of_run (F := [(0, _), (1, _)]) Tryz.func49 rfl Tryz.ntmps49 rfl rfl ?_
 have hO0 := Own.init w
 refine run_seq <| run_region <| rl_v rfl rfl rfl (ov_assign rfl rfl) <| rl_nil <| run_seq <| run_region <| rl_v rfl rfl rfl (ov_move rfl rfl) <| rl_v rfl rfl rfl (ov_move rfl rfl) ?_
 refine rl_call callable_86 rfl rfl rfl rfl rfl rfl (indexW_any bt bb bg tb f g b _ hV hP h1 h2 h3 b0 b1 hkg ao n c X hn hX hk) (fun e1 w2 hp3 => ?_)
 obtain ⟨⟨r, rfl, hr⟩, hbl⟩ := hp3
 refine ⟨_, rfl, ?_⟩
 have hO4 := hO0.past hbl
 refine rl_v rfl rfl rfl (ov_geq rfl rfl rfl) <| rl_v rfl rfl rfl (ov_assign rfl rfl) <| rl_nil <| run_ret Tryz.func49 (res1 Tryz.results49 rfl) ?_
 exact ⟨⟨_, rfl, by rw [decide_eq_true_iff]; rcases hr with ⟨h1, h2⟩ | ⟨h1, h2, h3⟩; (exact ⟨fun h => by omega, fun ⟨i, i0, i1, hi⟩ => absurd hi (h2 i i0 i1)⟩); (exact ⟨fun _ => ⟨r, h1, h2, h3⟩, fun _ => h1⟩)⟩, hO4.below⟩
theorem containsW_dec :
  Calls Tryz.prog 49 #[.slice ao n c, .func (.func 90) #[] #[ptr bt, ptr bb, ptr bg]] w fun e w' => e = .returned (.bool (@decide (∃ i : Int, 0 ≤ i ∧ i < n ∧ f.rb b g < f.rb b (X i)) (Classical.propDecidable _))) ∧ Below w.heap.size w w' :=
 (containsW_any bt bb bg tb f g b w hV hP h1 h2 h3 b0 b1 hkg ao n c X hn hX hk).mono fun e w' ⟨⟨y, h, hy⟩, hb⟩ => ⟨by
  rw [h]
  congr 2
  cases y
  ·exact (@decide_eq_false _ (Classical.propDecidable _) fun h => Bool.noConfusion (hy.2 h)).symm
  ·exact (@decide_eq_true _ (Classical.propDecidable _) (hy.1 rfl)).symm, hb⟩
end
def crw (l : Int → Int) (b : Int) : Nat → List Int
 | 0 => []
 | k + 1 => if l k = b then crw l b k ++ [(k : Int)] else crw l b k
theorem crw_mem {l : Int → Int} {b x : Int} : ∀ {k : Nat}, x ∈ crw l b k ↔ (0 ≤ x ∧ x < k) ∧ l x = b
 | 0 => by
  constructor
  ·intro h; cases h
  ·rintro ⟨⟨h0, h1⟩, _⟩; omega
 | k + 1 => by
  unfold crw
  split
  ·rename_i e
   rw [List.mem_append, crw_mem (k := k), List.mem_singleton]
   constructor
   ·rintro (⟨h1, h2⟩ | rfl)
    ·exact ⟨by omega, h2⟩
    ·exact ⟨by omega, e⟩
   ·rintro ⟨h1, h2⟩
    by_cases c : x = k
    ·exact .inr c
    ·exact .inl ⟨by omega, h2⟩
  ·rename_i e
   rw [crw_mem (k := k)]
   constructor
   ·rintro ⟨h1, h2⟩; exact ⟨by omega, h2⟩
   ·rintro ⟨h1, h2⟩
    by_cases c : x = k
    ·rw [c] at h2; exact absurd h2 e
    ·exact ⟨by omega, h2⟩
theorem crw_len (l : Int → Int) (b : Int) : ∀ k : Nat, ((crw l b k).length : Int) = cnk l k b
 | 0 => rfl
 | k + 1 => by
  have h := crw_len l b k
  rw [show ((k + 1 : Nat) : Int) = (k : Int) + 1 by omega, cnk_succ l (by omega)]
  unfold crw
  split
  ·rw [List.length_append]
   simp only [List.length_singleton]
   omega
  ·omega
def enL (L : List Int) (j : Int) : Int := L.getD j.toNat 0
theorem enL_mem {L : List Int} {j : Int} (j0 : 0 ≤ j) (j1 : j < L.length) : enL L j ∈ L := by
 unfold enL
 rw [List.getD_eq_getElem?_getD, List.getElem?_eq_getElem (by omega)]
 exact List.getElem_mem _
theorem enL_of_mem {L : List Int} {x : Int} (h : x ∈ L) : ∃ j : Int, 0 ≤ j ∧ j < L.length ∧ enL L j = x := by
 obtain ⟨i, hi, e⟩ := List.mem_iff_getElem.1 h
 refine ⟨i, by omega, by omega, ?_⟩
 unfold enL
 rw [List.getD_eq_getElem?_getD, List.getElem?_eq_getElem (by omega)]
 exact e
theorem enL_snoc (L : List Int) (x : Int) (k : Int) (k0 : 0 ≤ k) (_ : k < ((L.length + 1 : Nat) : Int)) : upd (enL L) L.length x k = enL (L ++ [x]) k := by
 unfold upd enL
 split
 ·rename_i e
  rw [e, List.getD_eq_getElem?_getD]
  simp
 ·rename_i e
  rw [List.getD_eq_getElem?_getD, List.getD_eq_getElem?_getD, List.getElem?_append_left (by omega)]
end Go.Proofs.YtlldeifbfpmbaaaGreat
