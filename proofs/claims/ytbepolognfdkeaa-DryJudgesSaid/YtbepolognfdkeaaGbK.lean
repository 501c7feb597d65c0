import Derived.Test.YtbepolognfdkeaaGbJ
set_option maxRecDepth 100000
namespace Go.Proofs.Ytbepolognfdkeaa
open Go.RowKit Go.Proofs Go.MapKept
def trV (t : Trn) : List Value := [iv t.1, iv t.2.1, iv t.2.2]
def trF (T : List Trn) : Int → List Value := fun j => trV (T.getD j.toNat (0, 0, 0))
theorem trF_app (T : List Trn) (t : Trn) : ∀ i : Int, 0 ≤ i → i < (T.length + 1 : Nat) → upd (trF T) T.length (trV t) i = trF (T ++ [t]) i := fun i i0 i1 => by
 unfold trF
 by_cases c : i = T.length
 ·rw [c, upd_same, Int.toNat_natCast]
  simp
 ·rw [upd_ne _ _ c, List.getD_eq_getElem?_getD, List.getD_eq_getElem?_getD, List.getElem?_append_left (by omega)]
theorem trF_row {v : Value} {E : TypeId} {T : List Trn} {t : Trn} {ct : Option Blk} (h : SRow v E 3 (T.length + 1) (upd (trF T) T.length (trV t)) ct) : SRow v E 3 (T ++ [t]).length (trF (T ++ [t])) ct := by
 rw [List.length_append]
 exact h.congr (trF_app T t)
theorem pcs_two {i X L s n : Int} (h : 0 < n - min n (L - s)) : pcs i X L s n = [(i, X + s, X + s + min n (L - s)), (i, X, X + (n - min n (L - s)))] := by unfold pcs; rw [if_pos h]
theorem pcs_one {i X L s n : Int} (h : ¬ 0 < n - min n (L - s)) : pcs i X L s n = [(i, X + s, X + s + min n (L - s))] := by unfold pcs; rw [if_neg h]
set_option maxHeartbeats 4000000 in
theorem turns_any {l : Lds} {c : Nat} {X : Int → Int} {kilns : Int} {G : Net} {L : Int → Int} {fl : Int} {wb : Nat} {la sa pa oa : Option Addr} {lc sc pc oc : Nat} (hb : Built l c X kilns G) (hs : G.Sm) (hF : l.Fit 1000000000) (x : Int → Int → Int) (hx : x = fun i k => xf G L (1 + i) (1 + (l.n : Int) + k)) (hD : Deal l c X kilns x) (k : Int) (k0 : 0 ≤ k) (k1 : k < ((c - 1 : Nat) : Int)) (hn : l.n ≤ 256) (w : World) (hW : WkAt w.heap.size w wb G L la l.n lc sa (c - 1) sc pa pc oa oc fl)
  (hsp : SAt w.heap.size w sa 2 (c - 1) (spF X)) :
  Calls Try.prog 57 #[ptr wb, iv k] w fun e w' => ∃ (ta : Option Addr) (tc : Nat) (T : List Trn) (ct : Option Blk), e = .returned (.slice ta T.length tc) ∧ T.length ≤ 512 ∧ DSpan l X x k l.n T ∧ SRow (.slice ta T.length tc) 53 3 T.length (trF T) ct ∧ Own w.heap.size w w' [ct] := by
 have hll := hW.lat.open
 obtain ⟨sb, so, hsa, hsr⟩ := hsp.open (by decide)
 have hcle := hb.cuts.le
 have hX0 := hb.cuts.rng hF (j := k) k0 (by omega)
 have hX1 := hb.cuts.rng hF (j := k + 1) (by omega) (by omega)
 have hinc := hb.cuts.inc k (k + 1) k0 (by omega) (by omega)
 refine calls_of_run (F := [(0, _), (1, _)]) Try.func57 rfl Try.ntmps57 rfl rfl ?_
 have hO0 := Own.init w
 refine run_seq <| run_region <| rl_v rfl rfl rfl (ov_assign rfl rfl) <| rl_nil <| run_seq <| run_quiet mixed (by kernel_rfl) ?_
 refine rq_v rfl rfl rfl (fun _ => ov_move rfl rfl) ?_
 refine rq_v rfl rfl rfl (fun _ => ov_nil rfl rfl) ?_
 refine rq_v rfl rfl rfl (fun _ => ov_fieldS rfl Try.underlying103 rfl (fo := 1) rfl (by kernel_rfl) rfl) ?_
 refine rq_v rfl rfl rfl (fun _ => ov_load rfl Try.underlying48 rfl rfl (by show World.cell? w _ = _; first | exact hll _ hO0.below rfl | exact hO0.cellI 0 rfl _ (by omega) (by omega) | exact hO0.cellL 0 rfl rfl | exact hO0.cellI 1 rfl _ (by omega) (by omega) | exact hO0.cellL 1 rfl rfl | exact hO0.cellI 2 rfl _ (by omega) (by omega) | exact hO0.cellL 2 rfl rfl | exact hO0.cellI 3 rfl _ (by omega) (by omega) | exact hO0.cellL 3 rfl rfl | exact hO0.cellI 4 rfl _ (by omega) (by omega) | exact hO0.cellL 4 rfl rfl | exact hO0.cellI 5 rfl _ (by omega) (by omega) | exact hO0.cellL 5 rfl rfl)) ?_
 refine rq_v rfl rfl rfl (fun _ => ov_move rfl rfl) ?_
 refine rq_v rfl rfl rfl (fun _ => ov_index rfl Try.underlying48 (by kernel_rfl) (s := 2) rfl rfl ⟨by omega, by omega⟩ (by exact hsa (by omega))) ?_
 refine rq_v rfl rfl rfl (fun _ => ov_indexA1 rfl Try.underlying89 (by kernel_rfl) rfl rfl ⟨by omega, by omega⟩) ?_
 refine rq_v rfl rfl rfl (fun _ => ov_load rfl Try.underlying3 rfl rfl (by show World.cell? w _ = _; first | exact hsr _ hO0.below k (by omega) (by omega) 0 (by decide))) ?_
 refine rq_v rfl rfl rfl (fun _ => ov_move rfl rfl) ?_
 refine rq_v rfl rfl rfl (fun _ => ov_nil rfl rfl) ?_
 refine rq_v rfl rfl rfl (fun _ => ov_fieldS rfl Try.underlying103 rfl (fo := 1) rfl (by kernel_rfl) rfl) ?_
 refine rq_v rfl rfl rfl (fun _ => ov_load rfl Try.underlying48 rfl rfl (by show World.cell? w _ = _; first | exact hll _ hO0.below rfl | exact hO0.cellI 0 rfl _ (by omega) (by omega) | exact hO0.cellL 0 rfl rfl | exact hO0.cellI 1 rfl _ (by omega) (by omega) | exact hO0.cellL 1 rfl rfl | exact hO0.cellI 2 rfl _ (by omega) (by omega) | exact hO0.cellL 2 rfl rfl | exact hO0.cellI 3 rfl _ (by omega) (by omega) | exact hO0.cellL 3 rfl rfl | exact hO0.cellI 4 rfl _ (by omega) (by omega) | exact hO0.cellL 4 rfl rfl | exact hO0.cellI 5 rfl _ (by omega) (by omega) | exact hO0.cellL 5 rfl rfl)) ?_
 refine rq_v rfl rfl rfl (fun _ => ov_move rfl rfl) ?_
 refine rq_v rfl rfl rfl (fun _ => ov_index rfl Try.underlying48 (by kernel_rfl) (s := 2) rfl rfl ⟨by omega, by omega⟩ (by exact hsa (by omega))) ?_
 refine rq_v rfl rfl rfl (fun _ => ov_indexA1 rfl Try.underlying89 (by kernel_rfl) rfl rfl ⟨by omega, by omega⟩) ?_
 refine rq_v rfl rfl rfl (fun _ => ov_load rfl Try.underlying3 rfl rfl (by show World.cell? w _ = _; first | exact hsr _ hO0.below k (by omega) (by omega) 1 (by decide))) ?_
 refine rq_v rfl rfl rfl (fun _ => ov_move rfl rfl) ?_
 refine rq_v rfl rfl rfl (fun _ => ov_nil rfl rfl) ?_
 refine rq_v rfl rfl rfl (fun _ => ov_fieldS rfl Try.underlying103 rfl (fo := 1) rfl (by kernel_rfl) rfl) ?_
 refine rq_v rfl rfl rfl (fun _ => ov_load rfl Try.underlying48 rfl rfl (by show World.cell? w _ = _; first | exact hll _ hO0.below rfl | exact hO0.cellI 0 rfl _ (by omega) (by omega) | exact hO0.cellL 0 rfl rfl | exact hO0.cellI 1 rfl _ (by omega) (by omega) | exact hO0.cellL 1 rfl rfl | exact hO0.cellI 2 rfl _ (by omega) (by omega) | exact hO0.cellL 2 rfl rfl | exact hO0.cellI 3 rfl _ (by omega) (by omega) | exact hO0.cellL 3 rfl rfl | exact hO0.cellI 4 rfl _ (by omega) (by omega) | exact hO0.cellL 4 rfl rfl | exact hO0.cellI 5 rfl _ (by omega) (by omega) | exact hO0.cellL 5 rfl rfl)) ?_
 refine rq_v rfl rfl rfl (fun _ => ov_move rfl rfl) ?_
 refine rq_v rfl rfl rfl (fun _ => ov_index rfl Try.underlying48 (by kernel_rfl) (s := 2) rfl rfl ⟨by omega, by omega⟩ (by exact hsa (by omega))) ?_
 refine rq_v rfl rfl rfl (fun _ => ov_indexA1 rfl Try.underlying89 (by kernel_rfl) rfl rfl ⟨by omega, by omega⟩) ?_
 refine rq_v rfl rfl rfl (fun _ => ov_load rfl Try.underlying3 rfl rfl (by show World.cell? w _ = _; first | exact hsr _ hO0.below k (by omega) (by omega) 0 (by decide))) ?_
 refine rq_v rfl rfl rfl (fun _ => ov_sub rfl rfl rfl (by omega)) ?_
 refine rq_v rfl rfl rfl (fun _ => ov_assign rfl rfl) ?_
 refine rq_v rfl rfl rfl (fun _ => ov_assign rfl rfl) ?_
 refine rq_nil (fun n1 => ?_)
 have hO3 := hO0.drewN n1
 generalize World.drewN w n1 = w2 at hO3 ⊢
 refine run_seq <| run_region <| rl_v rfl rfl rfl (ov_move rfl rfl) <| rl_v rfl rfl rfl (ov_move rfl rfl) ?_
 refine rl_call callable_72 rfl rfl rfl rfl rfl rfl (hours_any hb hs k k0 k1 hn _ (hW.later hO3.below)) (fun e4 w5 hp6 => ?_)
 obtain ⟨bm, M, rfl, hM, hO2⟩ := hp6
 refine ⟨_, rfl, ?_⟩
 have hO7 := hO3.join hO2
 refine rl_v rfl rfl rfl (ov_assign rfl rfl) <| rl_nil <| run_seq <| run_region <| rl_v rfl rfl rfl (ov_assign rfl rfl) <| rl_nil <| run_seq <| run_region <| rl_v rfl rfl rfl (ov_assign rfl rfl) <| rl_nil <| run_seq <| run_seq <| run_region <| rl_v rfl rfl rfl (ov_move rfl rfl) ?_
 refine rl_call callable_73 rfl rfl rfl rfl rfl rfl (keysI_any bm _) (fun e8 w9 hp10 => ?_)
 obtain ⟨b1, rfl, hO3⟩ := hp10
 refine ⟨_, rfl, ?_⟩
 have hO11 := hO7.join hO3
 refine rl_call callable_66 rfl rfl rfl rfl rfl rfl (sortedK_any 94 92 keysI_it callable_94 w.heap.size b1 bm w _ M [] hM.nd (by have := hM.le; omega) hO11) (fun e12 w13 hp14 => ?_)
 obtain ⟨va, vc, N, Y, cx, rfl, hv, hN, hri, hmem, hO4⟩ := hp14
 refine ⟨_, rfl, ?_⟩
 have hO5 := hO4.nil_cons
 obtain ⟨vb, hva⟩ := hv.addr
 have hMl := hM.le
 have hk : ∀ j : Int, 0 ≤ j → j < N → (0 ≤ Y j ∧ Y j < l.n) ∧ 0 < x (Y j) k ∧ lkp M (Y j) = some (iv (x (Y j) k)) := fun j j0 j1 => by
  have h1 := (hmem (Y j)).1 ⟨j, ⟨j0, j1⟩, rfl⟩
  have h2 := (hM.key (Y j)).1 h1
  have h3 := hM.val (Y j) h1
  rw [hx]
  exact ⟨h2.1, h2.2, h3⟩
 have hz : ∀ (j : Nat) (b b' : Int), j ≤ N → 0 ≤ b → b' ≤ l.n → (∀ a : Int, 0 ≤ a → a < j → Y a < b) → (∀ a : Int, j ≤ a → a < N → b' ≤ Y a) → ∀ i : Int, b ≤ i → i < b' → x i k = 0 := fun j b b' hj b0 b1 h1 h2 i i0 i1 => by
  have h3 := hD.nn i k (by omega) (by omega) k0 k1
  refine Classical.byContradiction fun hne => ?_
  have h4 : 0 < x i k := by omega
  rw [hx] at h4
  obtain ⟨a, ha, e⟩ := (hmem i).2 ((hM.key i).2 ⟨by omega, h4⟩)
  by_cases ca : a < j
  ·have := h1 a ha.1 ca; omega
  ·have := h2 a (by omega) ha.2; omega
 refine rl_v rfl rfl rfl (ov_len rfl Try.underlying47 rfl) <| rl_v rfl rfl rfl (ov_move rfl rfl) <| rl_nil <| run_block <| Run.keep [5, 6, 7, 8, 9, 45, 46, 47] (F' := [(5, _), (6, _), (7, _), (8, _), (9, _), (45, _), (46, _), (47, _)]) rfl <| run_loop3 (fun (j : Nat) (v : Value) (s : Int) => [(47, .int .i64 (j : Int)), (8, v), (9, .int .i64 s)]) [5, 6, 7, 45, 46] (fun (j : Nat) (v : Value) (s : Int) (w15 : World) => j ≤ N ∧ ∃ (T : List Trn) (b : Int) (ct : Option Blk), 0 ≤ b ∧ b ≤ l.n ∧ (∀ a : Int, 0 ≤ a → a < j → Y a < b) ∧ (∀ a : Int, j ≤ a → a < N → b ≤ Y a) ∧ s = stt x k b % (X (k + 1) - X k) ∧ T.length ≤ 2 * j ∧ DSpan l X x k b T ∧ SRow v 53 3 T.length (trF T) ct ∧ Own w.heap.size w w15 [ct, cx, some (lch b1 92 [.map (some bm)]), some (mch bm M)]) (fun (j : Nat) (v : Value) (s : Int) => N - j) (0) (.slice none 0 0) (0) ?_ (And.intro (by exact slot_int rfl (by first | omega)) (And.intro rfl (And.intro (by exact slot_int rfl (by first | omega)) (And.intro rfl (And.intro rfl (And.intro rfl (And.intro rfl (And.intro rfl trivial)))))))) ?_
 ·exact ⟨Nat.zero_le _, [], 0, none, Int.le_refl _, by omega, fun a a0 a1 => by omega, fun a a0 a1 => (hk a a0 a1).1.1, by show 0 = 0 % (X (k + 1) - X k); rw [Int.zero_emod], Nat.le_refl _, DSpan.nil k, SRow.nil _ _ _, hO5⟩
 intro j v s w15 hIw15 ih16
 obtain ⟨hj, T, b, ct, hb0, hb1, hlo, hhi, hs0, hTl, hT, hr, hO6⟩ := hIw15
 show Run _ _ _ _ [(47, _), (8, _), (9, _), (5, _), (6, _), (7, _), (45, _), (46, _)] _ _
 refine run_seq <| run_region <| rl_v rfl rfl rfl (ov_lss rfl rfl rfl) <| rl_nil <| run_seq ?_
 first | refine run_cond_dec rfl (fun c1 => ?_) (fun c1 => ?_) | refine run_cond rfl (fun c1 => ?_) (fun c1 => ?_)
 ·have hkj := hk j (by omega) c1
  have hle := hD.le (Y j) k hkj.1.1 hkj.1.2 k0 k1
  have hs1 := Int.emod_nonneg (stt x k b) (show X (k + 1) - X k ≠ 0 by omega)
  have hs2 := Int.emod_lt_of_pos (stt x k b) (show 0 < X (k + 1) - X k by omega)
  rw [← hs0] at hs1 hs2
  have hbY := hhi j (Int.le_refl _) c1
  have hT2 := hT.skip hb0 hbY (hz j b (Y j) (by omega) hb0 (by omega) hlo (fun a a0 a1 => by
   by_cases e : a = j
   ·rw [e]; exact Int.le_refl _
   ·exact Int.le_of_lt (hri.inc j a (by omega) (by omega) a1)))
  have hst := stt_skip (x := x) (k := k) hb0 hbY (hz j b (Y j) (by omega) hb0 (by omega) hlo (fun a a0 a1 => by
   by_cases e : a = j
   ·rw [e]; exact Int.le_refl _
   ·exact Int.le_of_lt (hri.inc j a (by omega) (by omega) a1)))
  have hS : 0 ≤ stt x k (Y j) := sm_nonneg fun i i0 i1 => hD.nn i k i0 (by omega) k0 k1
  have hT3 := hT2.step hkj.1.1 hkj.1.2 hS hkj.2.1 hle
  rw [hst, ← hs0] at hT3
  obtain ⟨n, hn0⟩ : ∃ n, n = x (Y j) k := ⟨_, rfl⟩
  have hse : (s + n) % (X (k + 1) - X k) = stt x k (Y j + 1) % (X (k + 1) - X k) := by
   rw [hs0, ← hst, hn0, Int.emod_add_emod]
   rw [show stt x k (Y j + 1) = stt x k (Y j) + x (Y j) k from sm_succ _ hkj.1.1]
  obtain ⟨hk1, hk2, hk3⟩ := hkj
  rw [← hn0] at hk2 hk3 hT3 hle
  refine run_skip <| run_seq <| run_block <| run_seq <| run_region <| rl_v rfl rfl rfl (ov_index1 rfl Try.underlying47 (by kernel_rfl) rfl rfl ⟨by omega, by omega⟩ (by exact hva (by omega))) ?_
  refine rl_v rfl rfl rfl (ov_load rfl Try.underlying3 rfl rfl (by exact hv.cellU hO6 1 rfl (hva (by omega)) (i := j) (by omega) (by omega))) ?_
  refine rl_v rfl rfl rfl (ov_assign rfl rfl) <| rl_nil <| run_seq <| run_region <| rl_v rfl rfl rfl (ov_move rfl rfl) <| rl_v rfl rfl rfl (ov_move rfl rfl) <| rl_v rfl rfl rfl (ov_lookupV rfl Try.underlying92 Try.underlying3 rfl rfl rfl (hO6.mapAt 3 rfl) hk3) <| rl_v rfl rfl rfl (ov_assign rfl rfl) <| rl_nil <| run_seq <| run_region <| rl_v rfl rfl rfl (ov_move rfl rfl) <| rl_v rfl rfl rfl (ov_move rfl rfl) <| rl_v rfl rfl rfl (ov_move rfl rfl) <| rl_v rfl rfl rfl (ov_sub rfl rfl rfl (by omega)) ?_
  refine rl_v rfl rfl rfl (ov_min rfl rfl rfl) <| rl_v rfl rfl rfl (ov_assign rfl rfl) <| rl_nil <| run_seq <| run_region <| rl_v rfl rfl rfl (ov_move rfl rfl) <| rl_v rfl rfl rfl (ov_move rfl rfl) <| rl_v rfl rfl rfl (ov_move rfl rfl) <| rl_v rfl rfl rfl (ov_move rfl rfl) <| rl_v rfl rfl rfl (ov_add rfl rfl rfl (by omega)) ?_
  refine rl_v rfl rfl rfl (ov_move rfl rfl) <| rl_v rfl rfl rfl (ov_move rfl rfl) <| rl_v rfl rfl rfl (ov_add rfl rfl rfl (by omega)) ?_
  refine rl_v rfl rfl rfl (ov_move rfl rfl) <| rl_v rfl rfl rfl (ov_add rfl rfl rfl (by omega)) ?_
  refine rl_v rfl rfl rfl (ov_buildL rfl lay_53 rfl (us := [_, _, _]) rfl) <| rl_ow rfl (ow_build [_] rfl rfl rfl rfl rfl Try.underlying51 info_53 (by decide) hO6 rfl rfl) ?_
  rintro _ w17 ⟨b70, rfl, hO18, hs19⟩
  refine rl_ow rfl (ow_appR1 rfl rfl rfl Try.underlying51 info_53 rfl rfl hO18 0 hr rfl rfl rfl rfl rfl ⟨by omega, by omega⟩) ?_
  rintro _ w20 ⟨v71, c71, rfl, hO21, hr71, hs22⟩
  have hr72 := trF_row (t := (Y j, X k + s, X k + s + min n (X (k + 1) - X k - s))) hr71
  have hTl2 : (T ++ [(Y j, X k + s, X k + s + min n (X (k + 1) - X k - s))]).length = T.length + 1 := by rw [List.length_append]; rfl
  have hlo2 : ∀ a : Int, 0 ≤ a → a < ((j + 1 : Nat) : Int) → Y a < Y j + 1 := fun a a0 a1 => by
   by_cases e : a = j
   ·rw [e]; omega
   ·have := hri.inc a j a0 (by omega) (by omega); omega
  have hhi2 : ∀ a : Int, ((j + 1 : Nat) : Int) ≤ a → a < N → Y j + 1 ≤ Y a := fun a a0 a1 => by
   have := hri.inc j a (by omega) (by omega) a1; omega
  refine rl_v rfl rfl rfl (ov_assign rfl rfl) <| rl_nil <| run_seq <| run_seq <| run_region <| rl_v rfl rfl rfl (ov_move rfl rfl) <| rl_v rfl rfl rfl (ov_move rfl rfl) <| rl_v rfl rfl rfl (ov_sub rfl rfl rfl (by omega)) ?_
  refine rl_v rfl rfl rfl (ov_assign rfl rfl) <| rl_nil <| run_seq <| run_region <| rl_v rfl rfl rfl (ov_move rfl rfl) <| rl_v rfl rfl rfl (ov_gtr rfl rfl rfl) <| rl_nil ?_
  first | refine run_cond_dec rfl (fun c2 => ?_) (fun c2 => ?_) | refine run_cond rfl (fun c2 => ?_) (fun c2 => ?_)
  ·refine run_region <| rl_v rfl rfl rfl (ov_move rfl rfl) <| rl_v rfl rfl rfl (ov_move rfl rfl) <| rl_v rfl rfl rfl (ov_move rfl rfl) <| rl_v rfl rfl rfl (ov_move rfl rfl) <| rl_v rfl rfl rfl (ov_move rfl rfl) <| rl_v rfl rfl rfl (ov_add rfl rfl rfl (by omega)) ?_
   refine rl_v rfl rfl rfl (ov_buildL rfl lay_53 rfl (us := [_, _, _]) rfl) <| rl_ow rfl (ow_build [_] rfl rfl rfl rfl rfl Try.underlying51 info_53 (by decide) hO21 rfl rfl) ?_
   rintro _ w23 ⟨b84, rfl, hO24, hs25⟩
   refine rl_ow rfl (ow_appR1 rfl rfl rfl Try.underlying51 info_53 rfl rfl hO24 0 hr72 rfl rfl rfl rfl rfl ⟨by omega, by omega⟩) ?_
   rintro _ w26 ⟨v85, c85, rfl, hO27, hr85, hs28⟩
   have hr86 := trF_row (t := (Y j, X k, X k + (n - min n (X (k + 1) - X k - s)))) hr85
   rw [pcs_two c2] at hT3
   rw [List.append_assoc] at hr86
   refine rl_v rfl rfl rfl (ov_assign rfl rfl) <| rl_nil <| run_region <| rl_v rfl rfl rfl (ov_move rfl rfl) <| rl_v rfl rfl rfl (ov_move rfl rfl) <| rl_v rfl rfl rfl (ov_add rfl rfl rfl (by omega)) ?_
   refine rl_v rfl rfl rfl (ov_move rfl rfl) <| rl_v rfl rfl rfl (ov_rem rfl rfl rfl (by omega) (by omega)) ?_
   refine rl_v rfl rfl rfl (ov_assign rfl rfl) <| rl_nil <| run_inBlock <| run_region <| rl_v rfl rfl rfl (ov_add rfl rfl rfl (by omega)) ?_
   refine rl_v rfl rfl rfl (ov_move rfl rfl) <| rl_nil ?_
   refine Run.use (ih16 (j + 1) (v85) ((s + n) % (X (k + 1) - X k)) _ ?_ ?_) (And.intro (by exact slot_int rfl (by first | omega)) (And.intro rfl (And.intro (by exact slot_int rfl (by first | omega)) (And.intro rfl (And.intro rfl (And.intro rfl (And.intro rfl (And.intro rfl trivial))))))))
   ·first | omega | (dsimp only; omega)
   ·exact ⟨by omega, _, Y j + 1, c85, by omega, by omega, hlo2, hhi2, hse, by rw [List.length_append]; show T.length + 2 ≤ _; omega, hT3, hr86, hO27⟩
  ·rw [pcs_one c2] at hT3
   refine run_skip <| run_region <| rl_v rfl rfl rfl (ov_move rfl rfl) <| rl_v rfl rfl rfl (ov_move rfl rfl) <| rl_v rfl rfl rfl (ov_add rfl rfl rfl (by omega)) ?_
   refine rl_v rfl rfl rfl (ov_move rfl rfl) <| rl_v rfl rfl rfl (ov_rem rfl rfl rfl (by omega) (by omega)) ?_
   refine rl_v rfl rfl rfl (ov_assign rfl rfl) <| rl_nil <| run_inBlock <| run_region <| rl_v rfl rfl rfl (ov_add rfl rfl rfl (by omega)) ?_
   refine rl_v rfl rfl rfl (ov_move rfl rfl) <| rl_nil ?_
   refine Run.use (ih16 (j + 1) (v71) ((s + n) % (X (k + 1) - X k)) _ ?_ ?_) (And.intro (by exact slot_int rfl (by first | omega)) (And.intro rfl (And.intro (by exact slot_int rfl (by first | omega)) (And.intro rfl (And.intro rfl (And.intro rfl (And.intro rfl (And.intro rfl trivial))))))))
   ·first | omega | (dsimp only; omega)
   ·exact ⟨by omega, _, Y j + 1, c71, by omega, by omega, hlo2, hhi2, hse, by rw [List.length_append]; show T.length + 1 ≤ _; omega, hT3, hr72, hO21⟩
 ·obtain ⟨ta, tc, rfl⟩ := Row.val hr
  have hjN : j = N := by omega
  have hT9 := hT.skip hb0 hb1 (hz j b l.n hj hb0 (Int.le_refl _) hlo (fun a a0 a1 => by omega))
  refine run_exit rfl <| run_seq <| run_region <| rl_v rfl rfl rfl (ov_move rfl rfl) <| rl_v rfl rfl rfl (ov_assign rfl rfl) <| rl_nil <| run_ret Try.func57 (res1 Try.results57 rfl) ?_
  exact ⟨ta, tc, T, ct, rfl, by omega, hT9, hr, hO6.sub (.cons_cons _ (List.nil_sublist _))⟩
end Go.Proofs.Ytbepolognfdkeaa
