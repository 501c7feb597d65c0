import Derived.Test.YtlldeifbfpmbaaaFkD
import Derived.Test.YtlldeifbfpmbaaaFkF
set_option maxRecDepth 100000
namespace Go.Proofs.Ytlldeifbfpmbaaa
open Go.RowKit Go.Proofs Go.MapKept
theorem refOutcome_yes (ga la : Option Addr) (n gc lc : Nat) (l : Int → Int) (w : World) (hln : n ≤ 1000000) (hl : IAt w.heap.size w la n (fun i => iv (l i))) (h : IsL n l n) :
  Calls Try.prog 28 #[.agg #[.slice ga n gc], .slice la n lc] w fun e w' => e = .returned (.bool true) ∧ Below w.heap.size w w' :=
 (refOutcome_any ga la n gc n lc l w hln hl).mono fun _ _ ⟨h1, h2⟩ => ⟨h1.trans (congrArg (fun x => Ending.returned (.bool x)) (dB_iff.2 ⟨rfl, h⟩)), h2⟩
theorem betterCore_any (ga la : Option Addr) (n gc lc : Nat) (L : Int → Nat) (E : Int → Int → Int) (o t : Int → Int) (w : World) (hn : n ≤ 64) (hv : SwapOk n L E) (hC : (wishOf n L E).Cert o t) (h : RTab w.heap.size w ga n L E) (hl : IAt w.heap.size w la n (fun i => iv (o i))) :
  Calls Try.prog 27 #[.agg #[.slice ga n gc], .slice la n lc] w fun e w' => e = .returned (.tuple #[.slice none 0 0, .bool false]) ∧ Below w.heap.size w w' := by
 by_cases c : n ≤ 12
 ·refine (better5_any ga la n gc lc L E o w c hv h hl (core_isL hC)).mono fun e w' hh => ?_
  rcases hh with ⟨t', ma, mc, c', ht, h1, h2, h3, h4⟩ | ⟨⟨h1, _⟩, h2⟩
  ·exact absurd h4 (core_noCoal hC fun x hx => (membL_memb t' n).in_rng hx)
  ·exact ⟨h1, h2⟩
 ·exact betterOff2_any ga la n gc n lc L E w hn hv h (fun r r0 r1 => by have := pigeon (hv r r0 r1).1 (hv r r0 r1).2; omega) rfl (by omega)
set_option maxHeartbeats 4000000 in
theorem swapTruth5_any (ga la : Option Addr) (n gc ln lc : Nat) (GL : Int → Nat) (GE : Int → Int → Int) (lie : Int → Int) (gr : Int) (w : World) (hG : RTab w.heap.size w ga n GL GE) (hlc : ln ≤ lc) (hl : IAt w.heap.size w la ln (fun i => iv (lie i))) :
  Calls Try.prog 7 #[.agg #[.slice ga n gc], iv gr, .slice la ln lc] w fun e w' => e = .returned (.bool true) ∧ Below w.heap.size w w' := by
 obtain ⟨n1, hn1⟩ : ∃ n1, n1 = min n 14 := ⟨_, rfl⟩
 obtain ⟨L1, hL1⟩ : ∃ L, L = tdL GL GE n1 := ⟨_, rfl⟩
 obtain ⟨E1, hE1⟩ : ∃ E, E = tdE GL GE n1 := ⟨_, rfl⟩
 refine calls_of_run (F := [(0, _), (1, _), (2, _)]) Try.func7 rfl Try.ntmps7 rfl rfl ?_
 have hO0 := Own.init w
 refine run_seq <| run_region <| rl_ow rfl (ow_box _ rfl rfl rfl rfl rfl hO0) ?_
 rintro _ w1 ⟨b1, rfl, hO2, hs3⟩
 refine rl_v rfl rfl rfl (ov_assign rfl rfl) <| rl_nil <| run_seq <| run_region <| rl_v rfl rfl rfl (ov_loadW rfl Try.underlying47 rfl (by kernel_rfl) rfl hO2 0 rfl) ?_
 refine rl_call callable_24 rfl rfl rfl rfl rfl rfl (tidySwapF_any ga n gc 14 GL GE _ (by decide) (hO2.rtab hG)) (fun e4 w5 hp6 => ?_)
 obtain ⟨ga1, gc1, H1, rfl, hS1, hO1⟩ := hp6
 refine ⟨_, rfl, ?_⟩
 have hO7 := hO2.join hO1
 have hOa := hO7.perm List.perm_append_comm
 rw [← hn1] at hS1 ⊢
 rw [← hL1, ← hE1] at hS1
 have hR1 := hS1.g.rown
 have hL9 : ∀ r : Int, 0 ≤ r → r < n1 → L1 r ≤ 1000000 := fun r r0 r1 => by have := hS1.len r r0 r1; omega
 refine rl_ow rfl (ow_alloc _ rfl rfl rfl zero_47 rfl hOa) ?_
 rintro _ w8 ⟨b7, rfl, hO9, hs10⟩
 refine rl_ow rfl (ow_storeW rfl rfl (by kernel_rfl) hO9 0 rfl rfl (by rfl) rfl (by rfl)) ?_
 rintro _ w11 ⟨rfl, hO12, hs13⟩
 refine rl_nil <| run_seq <| run_region <| rl_v rfl rfl rfl (ov_fieldS rfl Try.underlying47 rfl (fo := 0) rfl (by kernel_rfl) rfl) ?_
 refine rl_v rfl rfl rfl (ov_load rfl Try.underlying22 rfl rfl (by exact hO12.cellL 0 rfl (off := 0) rfl)) ?_
 refine rl_v rfl rfl rfl (ov_len rfl Try.underlying22 rfl) <| rl_v rfl rfl rfl (ov_assign rfl rfl) <| rl_nil <| run_seq <| run_seq <| run_region <| rl_v rfl rfl rfl (ov_move rfl rfl) <| rl_v rfl rfl rfl (ov_eql rfl rfl rfl) <| rl_nil ?_
 first | refine run_cond_dec rfl (fun c0 => ?_) (fun c0 => ?_) | refine run_cond rfl (fun c0 => ?_) (fun c0 => ?_)
 ·refine run_seq <| run_region ?_
  refine rl_call callable_17 rfl rfl rfl rfl rfl rfl (awake5_any sortRows_all _) (fun e14 w15 hp16 => ?_)
  obtain ⟨rfl, hb0⟩ := hp16
  refine ⟨_, rfl, ?_⟩
  have hO17 := hO12.past hb0
  refine rl_v rfl rfl rfl (ov_assign rfl rfl) <| rl_nil <| run_ret Try.func7 (res1 Try.results7 rfl) ?_
  exact ⟨rfl, hO17.below⟩
 ·have eN : IntKind.u64.wrap (n1 : Int) = n1 := IntWalk.u64_in _ (by omega)
  have hx1 := u64_nn5 gr
  have hx2 : IntKind.u64.wrap gr % IntKind.u64.wrap (n1 : Int) < n1 := by rw [eN]; exact Int.emod_lt_of_pos _ (by omega)
  have hx3 : 0 ≤ IntKind.u64.wrap gr % IntKind.u64.wrap (n1 : Int) := by rw [eN]; exact Int.emod_nonneg _ (by omega)
  have hx4 : IntKind.i64.wrap (IntKind.u64.wrap gr % IntKind.u64.wrap (n1 : Int)) = IntKind.u64.wrap gr % IntKind.u64.wrap (n1 : Int) := IntWalk.i64_in _ (by omega)
  obtain ⟨k, hk⟩ : ∃ k : Nat, (k : Int) = IntKind.i64.wrap (IntKind.u64.wrap gr % IntKind.u64.wrap (n1 : Int)) := ⟨_, Int.toNat_of_nonneg (by rw [hx4]; exact hx3)⟩
  have hkn : k < n1 := by omega
  refine run_skip <| run_seq <| run_region <| rl_v rfl rfl rfl (ov_move rfl rfl) <| rl_v rfl rfl rfl (ov_conv rfl Try.underlying3 Try.underlying37 rfl) <| rl_v rfl rfl rfl (ov_move rfl rfl) <| rl_v rfl rfl rfl (ov_conv rfl Try.underlying3 Try.underlying37 rfl) <| rl_v rfl rfl rfl (ov_rem rfl rfl rfl hx1 (by omega)) ?_
  refine rl_v rfl rfl rfl (ov_conv rfl Try.underlying37 Try.underlying3 rfl) <| rl_v rfl rfl rfl (ov_assign rfl rfl) <| rl_nil <| run_seq ?_
  rw [← hk]
  refine run_region <| rl_v rfl rfl rfl (ov_loadW rfl Try.underlying47 rfl (by kernel_rfl) rfl hO12 0 rfl) ?_
  refine rl_call callable_25 rfl rfl rfl rfl rfl rfl (swap5_any ga1 n1 gc1 _) (fun e18 w19 hp20 => ?_)
  obtain ⟨rfl, hb2⟩ := hp20
  refine ⟨_, rfl, ?_⟩
  have hO21 := hO12.past hb2
  refine rl_call callable_26 rfl rfl rfl rfl rfl rfl (core_any sortRows_all ga1 n1 gc1 L1 E1 _ (by omega) hS1.ok (hR1.at hO21.tail.tail)) (fun e22 w23 hp24 => ?_)
  obtain ⟨oc, o, t, rfl, hOc, hC⟩ := hp24
  refine ⟨_, rfl, ?_⟩
  have hO25 := hO21.join hOc
  refine rl_v rfl rfl rfl (ov_move rfl rfl) <| rl_v rfl rfl rfl (ov_extract rfl rfl (by rfl)) ?_
  refine rl_v rfl rfl rfl (ov_extract rfl rfl (by rfl)) ?_
  refine rl_v rfl rfl rfl (ov_assign rfl rfl) <| rl_v rfl rfl rfl (ov_assign rfl rfl) <| rl_nil <| run_seq <| run_region <| rl_v rfl rfl rfl (ov_loadW rfl Try.underlying47 rfl (by kernel_rfl) rfl hO25 2 rfl) ?_
  refine rl_call callable_24 rfl rfl rfl rfl rfl rfl (tidySwapF_any ga n gc 14 GL GE _ (by decide) (hO25.rtab hG)) (fun e26 w27 hp28 => ?_)
  obtain ⟨ga2, gc2, H2, rfl, hS2, hO2⟩ := hp28
  refine ⟨_, rfl, ?_⟩
  have hO29 := hO25.join hO2
  have hOb := hO29.perm List.perm_append_comm
  rw [← hn1] at hS2 ⊢
  rw [← hL1, ← hE1] at hS2
  refine rl_ow rfl (ow_alloc _ rfl rfl rfl zero_47 rfl hOb) ?_
  rintro _ w30 ⟨b12, rfl, hO31, hs32⟩
  refine rl_ow rfl (ow_storeW rfl rfl (by kernel_rfl) hO31 0 rfl rfl (by rfl) rfl (by rfl)) ?_
  rintro _ w33 ⟨rfl, hO34, hs35⟩
  have hOc2 : Own w.heap.size w w33 (some (lch b12 47 [.slice ga2 n1 gc2]) :: some (vch oc 3 n1 (fun i => iv (o i))) :: (H2 ++ (some (lch b7 47 [.slice ga1 n1 gc1]) :: some (lch b1 47 [.slice ga n gc]) :: H1))) := hO34.perm (((List.perm_append_comm (l₁ := some (lch b7 47 [.slice ga1 n1 gc1]) :: some (lch b1 47 [.slice ga n gc]) :: H1) (l₂ := H2)).cons _).cons _)
  obtain ⟨co, rv, ch, hv, h3, hOt⟩ := tab_take hS2.g hOc2 k hkn
  obtain ⟨gb, hgb⟩ := hv.addr
  have hgb' := hgb (by omega)
  have h3k := h3 k hkn
  obtain ⟨ra, rc, erv⟩ := Row.val h3k
  refine rl_nil <| run_seq <| run_late (fun w' => Own w.heap.size w w' (some (lch b12 47 [.slice ga2 n1 gc2]) :: some (vch oc 3 n1 (fun i => iv (o i))) :: ch k :: co :: (((List.range n1).erase k).map ch ++ (some (lch b7 47 [.slice ga1 n1 gc1]) :: some (lch b1 47 [.slice ga n gc]) :: H1)))) 11 mixed ?_
  have hO37 := hOt.drew
  generalize World.drew w33 = w36 at hO37 ⊢
  have hS38 : Own w.heap.size w w36 (some (lch b12 47 [.slice ga2 n1 gc2]) :: some (vch oc 3 n1 (fun i => iv (o i))) :: ch k :: co :: (((List.range n1).erase k).map ch ++ (some (lch b7 47 [.slice ga1 n1 gc1]) :: some (lch b1 47 [.slice ga n gc]) :: H1))) := by first | exact hO37 | exact hO37.tail
  refine rhl_v 0 rfl (by kernel_rfl) rfl rfl rfl hS38 (fun _ hS => ov_fieldS rfl Try.underlying47 rfl (fo := 0) rfl (by kernel_rfl) rfl) ?_
  refine rhl_v 1 rfl (by kernel_rfl) rfl rfl rfl hS38 (fun _ hS => ov_load rfl Try.underlying22 rfl rfl (by exact hS.cellL 0 rfl (off := 0) rfl)) ?_
  refine rhl_v 2 rfl (by kernel_rfl) rfl rfl rfl hS38 (fun _ hS => ov_move rfl rfl) ?_
  refine rhl_v 3 rfl (by kernel_rfl) rfl rfl rfl hS38 (fun _ hS => ov_move rfl rfl) ?_
  refine rhl_v 4 rfl (by kernel_rfl) rfl rfl rfl hS38 (fun _ hS => ov_move rfl rfl) ?_
  refine rhl_v 5 rfl (by kernel_rfl) rfl rfl rfl hS38 (fun _ hS => ov_len rfl Try.underlying23 rfl) ?_
  refine rhl_v 6 rfl (by kernel_rfl) rfl rfl rfl hS38 (fun _ hS => ov_min rfl rfl rfl) ?_
  refine rhl_v 7 rfl (by kernel_rfl) rfl rfl rfl hS38 (fun _ hS => ov_sliceH (min ln 14) (s := 1) rfl Try.underlying23 (by kernel_rfl) rfl rfl (by omega) (by omega)) ?_
  refine rhl_v 8 rfl (by kernel_rfl) rfl rfl rfl hS38 (fun _ hS => ov_move rfl rfl) ?_
  refine rhl_any1 9 (by kernel_rfl) ?_
  refine rcl_op rfl rfl (ow_call2 callable_18 rfl rfl rfl rfl rfl (tidy5_any la (min ln 14) lc n1 lie _ (by omega) (by omega) ((hO37.iatF hl).take (by omega))) (by intro e w' hp; obtain ⟨v5, k5, X5, c5, rfl, hk5, hX5, hr5, hO5⟩ := hp; exact ⟨_, rfl⟩)) ?_
  rintro _ w41 ⟨_, v39, he42, rfl, hp40⟩
  obtain ⟨v5, k5, X5, c5, rfl, hk5, hX5, hr5, hO5⟩ := hp40
  injection he42 with he42; subst he42
  have hO43 := hO37.join hO5
  have hS44 : Own w.heap.size w w41 (some (lch b12 47 [.slice ga2 n1 gc2]) :: some (vch oc 3 n1 (fun i => iv (o i))) :: ch k :: co :: (((List.range n1).erase k).map ch ++ (some (lch b7 47 [.slice ga1 n1 gc1]) :: some (lch b1 47 [.slice ga n gc]) :: H1))) := by first | exact hO43 | exact hO43.tail
  refine ⟨hS44, ?_⟩
  obtain ⟨a5, cp5, rfl⟩ := Row.val hr5
  refine rhl_v 10 rfl (by kernel_rfl) rfl rfl rfl hS44 (fun _ hS => ov_index1 rfl Try.underlying22 (by kernel_rfl) rfl rfl ⟨by omega, by omega⟩ (by exact (id hgb'))) ?_
  refine rhl_any1 11 (by kernel_rfl) ?_
  refine rcl_last rfl rfl (ow_storeI1 rfl rfl (by kernel_rfl) hO43 4 hv rfl hgb rfl ⟨by omega, by omega⟩ rfl rfl) ?_
  rintro _ w45 ⟨c9, rfl, hO46, hv9, hs47⟩
  obtain ⟨H3, hT3, hO9⟩ := tab_put (L := L1) (F := fun r c => iv (E1 r c)) k hkn hv9 h3 hr5 hO46
  obtain ⟨L2, hL2⟩ : ∃ L2 : Int → Nat, L2 = upd L1 (k : Int) k5 := ⟨_, rfl⟩
  obtain ⟨E2, hE2⟩ : ∃ E2 : Int → Int → Int, E2 = upd E1 (k : Int) X5 := ⟨_, rfl⟩
  have hT4 : OTab (.slice ga2 n1 gc2) 23 3 n1 L2 (fun r c => iv (E2 r c)) H3 := by rw [hL2, hE2]; exact hT3.congr (fun r c _ _ _ _ => updE r c)
  have hne : ∀ r : Int, r ≠ k → L2 r = L1 r ∧ E2 r = E1 r := fun r e => by rw [hL2, hE2, upd_ne _ _ e, upd_ne _ _ e]; exact ⟨rfl, rfl⟩
  have hok2 : SwapOk n1 L2 E2 := fun r r0 r1 => by
   by_cases e : r = k
   ·rw [hL2, hE2, e, upd_same, upd_same]; exact hX5
   ·rw [(hne r e).1, (hne r e).2]; exact hS1.ok r r0 r1
  refine rhl_done (by kernel_rfl) ?_
  refine run_seq <| run_region <| rl_v rfl rfl rfl (ov_loadW rfl Try.underlying47 rfl (by kernel_rfl) rfl hO9 0 rfl) ?_
  refine rl_call callable_25 rfl rfl rfl rfl rfl rfl (swap5_any ga2 n1 gc2 _) (fun e48 w49 hp50 => ?_)
  obtain ⟨rfl, hb3⟩ := hp50
  refine ⟨_, rfl, ?_⟩
  have hO51 := hO9.past hb3
  refine rl_call callable_26 rfl rfl rfl rfl rfl rfl (core_any sortRows_all ga2 n1 gc2 L2 E2 _ (by omega) hok2 (hT4.rown.at (hO51.tail.tail.sub (List.sublist_append_left _ _)))) (fun e52 w53 hp54 => ?_)
  obtain ⟨od, o2, t2, rfl, hOd, hC2⟩ := hp54
  refine ⟨_, rfl, ?_⟩
  have hO55 := hO51.join hOd
  have hOe : Own w.heap.size w w53 (some (vch od 3 n1 (fun i => iv (o2 i))) :: some (lch b12 47 [.slice ga2 n1 gc2]) :: some (vch oc 3 n1 (fun i => iv (o i))) :: some (lch b7 47 [.slice ga1 n1 gc1]) :: some (lch b1 47 [.slice ga n gc]) :: (H1 ++ H3)) := hO55.perm (((List.perm_append_comm (l₁ := H3) (l₂ := some (lch b7 47 [.slice ga1 n1 gc1]) :: some (lch b1 47 [.slice ga n gc]) :: H1)).cons _).cons _ |>.cons _)
  have hRr : ∀ (ww : World), Own w.heap.size w ww (some (vch od 3 n1 (fun i => iv (o2 i))) :: some (lch b12 47 [.slice ga2 n1 gc2]) :: some (vch oc 3 n1 (fun i => iv (o i))) :: some (lch b7 47 [.slice ga1 n1 gc1]) :: some (lch b1 47 [.slice ga n gc]) :: (H1 ++ H3)) → RTab ww.heap.size ww ga1 n1 L1 E1 := fun ww h => hR1.at (h.tail.tail.tail.tail.tail.sub (List.sublist_append_left _ _))
  refine rl_v rfl rfl rfl (ov_move rfl rfl) <| rl_v rfl rfl rfl (ov_extract rfl rfl (by rfl)) ?_
  refine rl_v rfl rfl rfl (ov_extract rfl rfl (by rfl)) ?_
  refine rl_v rfl rfl rfl (ov_assign rfl rfl) <| rl_v rfl rfl rfl (ov_assign rfl rfl) <| rl_nil <| run_seq <| run_seq <| run_region <| rl_v rfl rfl rfl (ov_move rfl rfl) <| rl_v rfl rfl rfl (ov_neq rfl rfl rfl) <| rl_v rfl rfl rfl (ov_move rfl rfl) ?_
  first | refine rl_noD 59 rfl (fun h => h rfl) ?_ | refine rl_no 59 rfl (fun h => h rfl) ?_
  refine rl_gv rfl rfl rfl rfl rfl (ov_move rfl rfl) <| rl_gv rfl rfl rfl rfl rfl (ov_neq rfl rfl rfl) <| rl_v rfl rfl rfl (ov_pick_f rfl rfl rfl) <| rl_v rfl rfl rfl (ov_move rfl rfl) ?_
  first | refine rl_noD 63 rfl (fun h => h rfl) ?_ | refine rl_no 63 rfl (fun h => h rfl) ?_
  refine rl_gv rfl rfl rfl rfl rfl (ov_loadW rfl Try.underlying47 rfl (by kernel_rfl) rfl hOe 3 rfl) ?_
  refine rl_gv rfl rfl rfl rfl rfl (ov_move rfl rfl) ?_
  refine rl_gcall callable_28 rfl rfl rfl rfl rfl rfl rfl rfl (refOutcome_yes ga1 (some ⟨oc, 0, none⟩) n1 gc1 n1 o _ (by omega) (hOe.readsI 2 rfl) (core_isL hC)) (fun e56 w57 hp58 => ?_)
  obtain ⟨rfl, hb4⟩ := hp58
  refine ⟨_, rfl, ?_⟩
  have hO59 := hOe.past hb4
  refine rl_gv rfl rfl rfl rfl rfl (ov_not rfl rfl) <| rl_v rfl rfl rfl (ov_pick_f rfl rfl rfl) <| rl_v rfl rfl rfl (ov_move rfl rfl) ?_
  first | refine rl_noD 69 rfl (rfl) ?_ | refine rl_no 69 rfl (rfl) ?_
  refine rl_gv rfl rfl rfl rfl rfl (ov_loadW rfl Try.underlying47 rfl (by kernel_rfl) rfl hO59 3 rfl) ?_
  refine rl_gv rfl rfl rfl rfl rfl (ov_move rfl rfl) ?_
  refine rl_gcall callable_28 rfl rfl rfl rfl rfl rfl rfl rfl (refOutcome_yes ga1 (some ⟨od, 0, none⟩) n1 gc1 n1 o2 _ (by omega) (hO59.readsI 0 rfl) (core_isL hC2)) (fun e60 w61 hp62 => ?_)
  obtain ⟨rfl, hb5⟩ := hp62
  refine ⟨_, rfl, ?_⟩
  have hO63 := hO59.past hb5
  refine rl_gv rfl rfl rfl rfl rfl (ov_not rfl rfl) <| rl_v rfl rfl rfl (ov_pick_f rfl rfl rfl) <| rl_nil ?_
  first | refine run_cond_dec rfl (fun bad => ?_) (fun bad => ?_) | refine run_cond rfl (fun bad => ?_) (fun bad => ?_)
  ·exfalso; exact Bool.noConfusion bad
  ·refine run_skip <| run_seq <| run_seq <| run_region <| rl_v rfl rfl rfl (ov_assign rfl rfl) <| rl_nil <| run_block <| Run.keep [7, 8, 9, 10, 13, 15] (F' := [(7, _), (8, _), (9, _), (10, _), (13, _), (15, _)]) rfl <| run_loop1 (fun (i : Int) => [(15, .int .i64 i)]) [7, 8, 9, 10, 13] (fun (i : Int) (w64 : World) => 0 ≤ i ∧ i ≤ n1 ∧ Own w.heap.size w w64 (some (vch od 3 n1 (fun i => iv (o2 i))) :: some (lch b12 47 [.slice ga2 n1 gc2]) :: some (vch oc 3 n1 (fun i => iv (o i))) :: some (lch b7 47 [.slice ga1 n1 gc1]) :: some (lch b1 47 [.slice ga n gc]) :: (H1 ++ H3))) (fun (i : Int) => ((n1 : Int) - i).toNat) (0) ?_ (And.intro (by exact slot_int rfl (by first | omega)) (And.intro rfl (And.intro rfl (And.intro rfl (And.intro rfl (And.intro rfl trivial)))))) ?_
   ·exact ⟨by omega, by omega, hO63⟩
   intro i w64 hIw64 ih65
   obtain ⟨hi0, hi1, hO⟩ := hIw64
   show Run _ _ _ _ [(15, _), (7, _), (8, _), (9, _), (10, _), (13, _)] _ _
   refine run_seq <| run_seq <| run_region <| rl_v rfl rfl rfl (ov_move rfl rfl) <| rl_v rfl rfl rfl (ov_move rfl rfl) <| rl_v rfl rfl rfl (ov_lss rfl rfl rfl) <| rl_nil ?_
   first | refine run_cond_dec rfl (fun c1 => ?_) (fun c1 => ?_) | refine run_cond rfl (fun c1 => ?_) (fun c1 => ?_)
   ·refine run_skip <| run_seq <| run_block <| run_seq <| run_class (Cl5 w.heap.size w (some (vch od 3 n1 (fun i => iv (o2 i))) :: some (lch b12 47 [.slice ga2 n1 gc2]) :: some (vch oc 3 n1 (fun i => iv (o i))) :: some (lch b7 47 [.slice ga1 n1 gc1]) :: some (lch b1 47 [.slice ga n gc]) :: (H1 ++ H3))) (⟨hO.drew⟩) mixed (by kernel_rfl) ?_
    refine rk_v rfl rfl rfl (fun wq hQ => ov_loadW rfl Try.underlying47 rfl (by kernel_rfl) rfl (hQ.own) 3 rfl) ?_
    refine rk_v rfl rfl rfl (fun wq hQ => ov_move rfl rfl) ?_
    refine rk_v rfl rfl rfl (fun wq hQ => ov_move rfl rfl) ?_
    refine rk_v rfl rfl rfl (fun wq hQ => ov_move rfl rfl) ?_
    refine rk_v rfl rfl rfl (fun wq hQ => ov_index1 rfl Try.underlying23 (by kernel_rfl) rfl rfl ⟨by omega, by omega⟩ (by rfl)) ?_
    refine rk_v rfl rfl rfl (fun wq hQ => ov_load rfl Try.underlying3 rfl rfl (by exact (hQ.own).cellI 2 rfl i (by omega) (by omega))) ?_
    refine rk_call callable_33 rfl rfl rfl rfl rfl rfl (fun wq hQ => (refLikes_any ga1 n1 gc1 L1 E1 i (o i) _ hL9 (hRr _ (hQ.own)).tab hi0 c1).mono fun _ _ h => ⟨h.1, ⟨(hQ.own).past h.2⟩⟩) ?_
    refine rk_v rfl rfl rfl (fun wq hQ => ov_loadW rfl Try.underlying47 rfl (by kernel_rfl) rfl (hQ.own) 3 rfl) ?_
    refine rk_v rfl rfl rfl (fun wq hQ => ov_move rfl rfl) ?_
    refine rk_v rfl rfl rfl (fun wq hQ => ov_move rfl rfl) ?_
    refine rk_call callable_33 rfl rfl rfl rfl rfl rfl (fun wq hQ => (refLikes_any ga1 n1 gc1 L1 E1 i i _ hL9 (hRr _ (hQ.own)).tab hi0 c1).mono fun _ _ h => ⟨h.1, ⟨(hQ.own).past h.2⟩⟩) ?_
    refine rk_v rfl rfl rfl (fun wq hQ => ov_gtr rfl rfl rfl) ?_
    refine rk_nil (fun w72 hQ => ?_)
    first | refine run_cond_dec rfl (fun bad => ?_) (fun bad => ?_) | refine run_cond rfl (fun bad => ?_) (fun bad => ?_)
    ·exfalso; have := core_own hC hi0 c1; have hb : lik5 L1 E1 i i < lik5 L1 E1 i (o i) := bad; omega
    ·refine run_skip <| run_inBlock <| run_region <| rl_v rfl rfl rfl (ov_move rfl rfl) <| rl_v rfl rfl rfl (ov_add rfl rfl rfl (by omega)) ?_
     refine rl_v rfl rfl rfl (ov_assign rfl rfl) <| rl_nil ?_
     refine Run.use (ih65 (i + 1) _ ?_ ?_) (And.intro (by exact slot_int rfl (by first | omega)) (And.intro rfl (And.intro rfl (And.intro rfl (And.intro rfl (And.intro rfl trivial))))))
     ·first | omega | (dsimp only; omega)
     ·exact ⟨by omega, by omega, (hQ.own)⟩
   ·refine run_exit rfl <| run_seq <| run_region <| rl_v rfl rfl rfl (ov_loadW rfl Try.underlying47 rfl (by kernel_rfl) rfl hO 3 rfl) ?_
    refine rl_call callable_25 rfl rfl rfl rfl rfl rfl (swap5_any ga1 n1 gc1 _) (fun e73 w74 hp75 => ?_)
    obtain ⟨rfl, hb6⟩ := hp75
    refine ⟨_, rfl, ?_⟩
    have hO76 := hO.past hb6
    refine rl_v rfl rfl rfl (ov_move rfl rfl) ?_
    refine rl_call callable_27 rfl rfl rfl rfl rfl rfl (betterCore_any ga1 (some ⟨oc, 0, none⟩) n1 gc1 n1 L1 E1 o t _ (by omega) hS1.ok hC (hRr _ hO76) (hO76.readsI 2 rfl)) (fun e77 w78 hp79 => ?_)
    obtain ⟨rfl, hb7⟩ := hp79
    refine ⟨_, rfl, ?_⟩
    have hO80 := hO76.past hb7
    have htr : lik5 L1 E1 k (o k) ≤ lik5 L1 E1 k (o2 k) := Int.not_lt.1 fun hh => hC.truth hC2 rfl (x := (k : Int)) (by omega) (show (k : Int) < n1 by omega) (fun r r0 r1 e => by
     obtain ⟨e1, e2⟩ := hne r e
     unfold wishOf
     dsimp only
     rw [e1, e2]
     exact ⟨rfl, rfl⟩) (lik_lt.1 hh)
    refine rl_v rfl rfl rfl (ov_move rfl rfl) <| rl_v rfl rfl rfl (ov_extract rfl rfl (by rfl)) ?_
    refine rl_v rfl rfl rfl (ov_extract rfl rfl (by rfl)) ?_
    refine rl_v rfl rfl rfl (ov_assign rfl rfl) <| rl_v rfl rfl rfl (ov_assign rfl rfl) <| rl_nil <| run_seq <| run_class (Cl5 w.heap.size w (some (vch od 3 n1 (fun i => iv (o2 i))) :: some (lch b12 47 [.slice ga2 n1 gc2]) :: some (vch oc 3 n1 (fun i => iv (o i))) :: some (lch b7 47 [.slice ga1 n1 gc1]) :: some (lch b1 47 [.slice ga n gc]) :: (H1 ++ H3))) (⟨hO80.drew⟩) mixed (by kernel_rfl) ?_
    refine rk_v rfl rfl rfl (fun wq hQ => ov_loadW rfl Try.underlying47 rfl (by kernel_rfl) rfl (hQ.own) 3 rfl) ?_
    refine rk_v rfl rfl rfl (fun wq hQ => ov_move rfl rfl) ?_
    refine rk_v rfl rfl rfl (fun wq hQ => ov_move rfl rfl) ?_
    refine rk_v rfl rfl rfl (fun wq hQ => ov_move rfl rfl) ?_
    refine rk_v rfl rfl rfl (fun wq hQ => ov_index1 rfl Try.underlying23 (by kernel_rfl) rfl rfl ⟨by omega, by omega⟩ (by rfl)) ?_
    refine rk_v rfl rfl rfl (fun wq hQ => ov_load rfl Try.underlying3 rfl rfl (by exact (hQ.own).cellI 0 rfl k (by omega) (by omega))) ?_
    refine rk_call callable_33 rfl rfl rfl rfl rfl rfl (fun wq hQ => (refLikes_any ga1 n1 gc1 L1 E1 k (o2 k) _ hL9 (hRr _ (hQ.own)).tab (by omega) (by omega)).mono fun _ _ h => ⟨h.1, ⟨(hQ.own).past h.2⟩⟩) ?_
    refine rk_v rfl rfl rfl (fun wq hQ => ov_loadW rfl Try.underlying47 rfl (by kernel_rfl) rfl (hQ.own) 3 rfl) ?_
    refine rk_v rfl rfl rfl (fun wq hQ => ov_move rfl rfl) ?_
    refine rk_v rfl rfl rfl (fun wq hQ => ov_move rfl rfl) ?_
    refine rk_v rfl rfl rfl (fun wq hQ => ov_move rfl rfl) ?_
    refine rk_v rfl rfl rfl (fun wq hQ => ov_index1 rfl Try.underlying23 (by kernel_rfl) rfl rfl ⟨by omega, by omega⟩ (by rfl)) ?_
    refine rk_v rfl rfl rfl (fun wq hQ => ov_load rfl Try.underlying3 rfl rfl (by exact (hQ.own).cellI 2 rfl k (by omega) (by omega))) ?_
    refine rk_call callable_33 rfl rfl rfl rfl rfl rfl (fun wq hQ => (refLikes_any ga1 n1 gc1 L1 E1 k (o k) _ hL9 (hRr _ (hQ.own)).tab (by omega) (by omega)).mono fun _ _ h => ⟨h.1, ⟨(hQ.own).past h.2⟩⟩) ?_
    refine rk_v rfl rfl rfl (fun wq hQ => ov_geq rfl rfl rfl) ?_
    refine rk_v rfl rfl rfl (fun wq hQ => ov_move rfl rfl) ?_
    first | refine rk_yesD 114 rfl (htr) ?_ | refine rk_yes 114 rfl (htr) ?_
    refine rk_gv rfl rfl rfl rfl rfl (fun wq hQ => ov_move rfl rfl) ?_
    refine rk_gv rfl rfl rfl rfl rfl (fun wq hQ => ov_not rfl rfl) ?_
    refine rk_v rfl rfl rfl (fun wq hQ => ov_pick_t rfl rfl rfl) ?_
    refine rk_v rfl rfl rfl (fun wq hQ => ov_move rfl rfl) ?_
    first | refine rk_yesD 118 rfl (rfl) ?_ | refine rk_yes 118 rfl (rfl) ?_
    refine rk_gv rfl rfl rfl rfl rfl (fun wq hQ => ov_move rfl rfl) ?_
    refine rk_gv rfl rfl rfl rfl rfl (fun wq hQ => ov_len rfl Try.underlying23 rfl) ?_
    refine rk_gv rfl rfl rfl rfl rfl (fun wq hQ => ov_eql rfl rfl rfl) ?_
    refine rk_v rfl rfl rfl (fun wq hQ => ov_pick_t rfl rfl rfl) ?_
    refine rk_v rfl rfl rfl (fun wq hQ => ov_move rfl rfl) ?_
    first | refine rk_yesD 123 rfl (rfl) ?_ | refine rk_yes 123 rfl (rfl) ?_
    refine rk_gcall callable_17 rfl rfl rfl rfl rfl rfl rfl rfl (fun wq hQ => (awake5_any sortRows_all _).mono fun _ _ h => ⟨h.1, ⟨(hQ.own).past h.2⟩⟩) ?_
    refine rk_v rfl rfl rfl (fun wq hQ => ov_pick_t rfl rfl rfl) ?_
    refine rk_v rfl rfl rfl (fun wq hQ => ov_assign rfl rfl) ?_
    refine rk_nil (fun w90 hQ2 => ?_)
    refine run_ret Try.func7 (res1 Try.results7 rfl) ?_
    exact ⟨rfl, (hQ2.own).below⟩
end Go.Proofs.Ytlldeifbfpmbaaa
