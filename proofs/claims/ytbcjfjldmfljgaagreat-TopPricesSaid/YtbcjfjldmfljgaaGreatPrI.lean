import Derived.Test.YtbcjfjldmfljgaaGreatPrH
set_option maxRecDepth 100000
namespace Go.Proofs.YtbcjfjldmfljgaaGreat
open Go.RowKit Go.Proofs Go.MapKept
abbrev f3C (lb wb rb : Nat) : Value := .func (.func 41) #[] #[ptr lb, ptr wb, ptr rb]
abbrev kB (b3 b5 lb wb rb : Nat) (l : Int) : List (Option Blk) := [some (lch b5 2 [iv l]), some (lch b3 71 [f3C lb wb rb])]
section
variable (z : Zns) (hz : z.Sm) (h1 : z.n = 1) (hds : z.d 0 ≤ z.s 0) (lb wb rb vc : Nat) (va : Option Addr) (c1 : Option Blk) (hr : SRow (.slice va 1 vc) 69 4 1 (znF z) c1) (B : Nat) (w0 : World)
include hz h1 hds hr
theorem kept13_any (b3 b5 : Nat) (y : Int) (K : List (Option Blk)) (w : World) (hO : Own B w0 w (xL lb wb rb vc va c1 y ++ (kB b3 b5 lb wb rb (f3V z) ++ K))) :
  Calls Tryz.prog 71 (#[.agg (znF z 0).toArray] ++ #[ptr b3, ptr b5]) w fun e w' => e = .returned (.bool false) ∧ Own B w0 w' (xL lb wb rb vc va c1 (leanV z) ++ (kB b3 b5 lb wb rb (f3V z) ++ K)) := by
 refine calls_of_run (F := [(0, _), (1, _), (2, _)]) Tryz.func71 rfl Tryz.ntmps71 rfl rfl <| run_seq <| run_region <| rl_ow rfl (ow_box _ rfl rfl rfl rfl rfl hO) ?_
 rintro _ w1 ⟨x3, rfl, hO2, hs3⟩
 have hO2 : Own B w0 w1 (some (lch x3 69 (znF z 0)) :: (xL lb wb rb vc va c1 y ++ (kB b3 b5 lb wb rb (f3V z) ++ K))) := hO2
 refine rl_v rfl rfl rfl (ov_assign rfl rfl) <| rl_nil <| run_seq <| run_held (fun w' => Own B w0 w' ((some (lch x3 69 (znF z 0)) :: kB b3 b5 lb wb rb (f3V z)))) mixed ?_
 have hO5 := hO2.drew
 generalize World.drew w1 = w4 at hO5 ⊢
 have hS6 : Own B w0 w4 ((some (lch x3 69 (znF z 0)) :: kB b3 b5 lb wb rb (f3V z))) := by exact (hO5.sub (.cons_cons _ (.cons _ (.cons _ (.cons _ (.cons _ (.cons_cons _ (.cons_cons _ (List.nil_sublist _)))))))))
 refine rh_v 0 rfl (by kernel_rfl) rfl rfl rfl hS6 (fun _ hS => ov_load rfl Tryz.underlying71 rfl rfl (by exact hS.cellL 2 rfl (off := 0) rfl)) ?_
 refine rh_v 1 rfl (by kernel_rfl) rfl rfl rfl hS6 (fun _ hS => ov_loadW rfl Tryz.underlying69 rfl (by kernel_rfl) rfl hS 0 rfl) ?_
 refine rh_v 3 rfl (by kernel_rfl) rfl rfl rfl hS6 (fun _ hS => ov_load rfl Tryz.underlying2 rfl rfl (by exact hS.cellL 1 rfl (off := 0) rfl)) ?_
 refine rh_any1 2 (by kernel_rfl) ?_
 refine rc_op rfl rfl (ow_call2 callable_41 rfl rfl rfl rfl rfl (price3_any z hz h1 hds lb wb rb vc va c1 hr B w0 y (some (lch x3 69 (znF z 0)) :: (kB b3 b5 lb wb rb (f3V z) ++ K)) _ (hO5.perm List.perm_middle.symm)) (by intro e w' hp; obtain ⟨rfl, hOa⟩ := hp; exact ⟨_, rfl⟩)) ?_
 rintro _ w9 ⟨_, v7, he10, rfl, hp8⟩
 obtain ⟨rfl, hOa⟩ := hp8
 injection he10 with he10; subst he10
 have hOb : Own B w0 w9 (some (lch x3 69 (znF z 0)) :: (xL lb wb rb vc va c1 (leanV z) ++ (kB b3 b5 lb wb rb (f3V z) ++ K))) := hOa.perm List.perm_middle
 have hS11 : Own B w0 w9 ((some (lch x3 69 (znF z 0)) :: kB b3 b5 lb wb rb (f3V z))) := by exact (hOb.sub (.cons_cons _ (.cons _ (.cons _ (.cons _ (.cons _ (.cons_cons _ (.cons_cons _ (List.nil_sublist _)))))))))
 refine ⟨hS11, ?_⟩
 refine rh_v 4 rfl (by kernel_rfl) rfl rfl rfl hS11 (fun _ hS => ov_neq rfl rfl rfl) ?_
 refine rh_v 5 rfl (by kernel_rfl) rfl rfl rfl hS11 (fun _ hS => ov_assign rfl rfl) ?_
 refine rh_done (by kernel_rfl) ?_
 refine run_ret Tryz.func71 (res1 Tryz.results71 rfl) ?_
 exact ⟨by simp, hOb.tail⟩
theorem indexZ3_any (b3 b5 : Nat) (sa : Option Addr) (sc : Nat) (c2 : Option Blk) (hr2 : SRow (.slice sa 1 sc) 69 4 1 (znF z) c2) (y : Int) (K : List (Option Blk)) (w : World) (hO : Own B w0 w (xL lb wb rb vc va c1 y ++ (kB b3 b5 lb wb rb (f3V z) ++ (c2 :: K)))) :
  Calls Tryz.prog 86 #[.slice sa 1 sc, .func (.func 71) #[] #[ptr b3, ptr b5]] w fun e w' => e = .returned (iv (-1)) ∧ Own B w0 w' (xL lb wb rb vc va c1 (leanV z) ++ (kB b3 b5 lb wb rb (f3V z) ++ (c2 :: K))) := by
 obtain ⟨vb, hvb⟩ := hr2.addr
 refine calls_of_run (F := [(0, _), (1, _)]) Tryz.func86 rfl Tryz.ntmps86 rfl rfl <| run_seq <| run_region <| rl_v rfl rfl rfl (ov_assign rfl rfl) <| rl_nil <| run_seq <| run_seq <| run_region <| rl_v rfl rfl rfl (ov_move rfl rfl) <| rl_v rfl rfl rfl (ov_len rfl Tryz.underlying66 rfl) <| rl_v rfl rfl rfl (ov_move rfl rfl) <| rl_nil <| run_block <| run_once <| run_seq <| run_region <| rl_v rfl rfl rfl (ov_lss rfl rfl rfl) <| rl_nil <| run_seq ?_
 first | refine run_cond_dec rfl (fun q1 => ?_) (fun q1 => ?_) | refine run_cond rfl (fun q1 => ?_) (fun q1 => ?_)
 ·refine run_skip <| run_seq <| run_block <| run_seq <| run_region <| rl_v rfl rfl rfl (ov_move rfl rfl) <| rl_v rfl rfl rfl (ov_assign rfl rfl) <| rl_nil <| run_seq <| run_region <| rl_v rfl rfl rfl (ov_move rfl rfl) <| rl_v rfl rfl rfl (ov_move rfl rfl) <| rl_v rfl rfl rfl (ov_move rfl rfl) <| rl_v rfl rfl rfl (ov_index rfl Tryz.underlying66 (by kernel_rfl) (s := 4) rfl rfl ⟨by omega, by omega⟩ (by exact hvb (by omega))) ?_
  refine rl_v rfl rfl rfl (ov_loadE rfl Tryz.underlying69 rfl (by kernel_rfl) rfl ⟨by omega, by omega⟩ rfl ((hr2.cellU hO 6 rfl (hvb (by omega))))) ?_
  refine rl_call callable_71 rfl rfl rfl rfl rfl rfl (kept13_any z hz h1 hds lb wb rb vc va c1 hr B w0 b3 b5 y (c2 :: K) _ hO) (fun e1 w2 hp3 => ?_)
  obtain ⟨rfl, hOa⟩ := hp3
  refine ⟨_, rfl, ?_⟩
  refine rl_nil ?_
  first | refine run_cond_dec rfl (fun q2 => ?_) (fun q2 => ?_) | refine run_cond rfl (fun q2 => ?_) (fun q2 => ?_)
  ·exfalso; (exact Bool.noConfusion q2)
  ·refine run_skip <| run_inBlock <| run_region <| rl_v rfl rfl rfl (ov_add rfl rfl rfl (by omega)) ?_
   refine rl_v rfl rfl rfl (ov_move rfl rfl) <| rl_nil <| run_again <| run_seq <| run_region <| rl_v rfl rfl rfl (ov_lss rfl rfl rfl) <| rl_nil <| run_seq ?_
   first | refine run_cond_dec rfl (fun q3 => ?_) (fun q3 => ?_) | refine run_cond rfl (fun q3 => ?_) (fun q3 => ?_)
   ·exfalso; omega
   ·refine run_exit rfl <| run_seq <| run_region <| rl_v rfl rfl rfl (ov_assign rfl rfl) <| rl_nil <| run_ret Tryz.func86 (res1 Tryz.results86 rfl) ?_
    exact ⟨rfl, hOa⟩
 ·exfalso; omega
theorem deleteZ3_any (b3 b5 : Nat) (sa : Option Addr) (sc : Nat) (c2 : Option Blk) (hr2 : SRow (.slice sa 1 sc) 69 4 1 (znF z) c2) (y : Int) (K : List (Option Blk)) (w : World) (hO : Own B w0 w (xL lb wb rb vc va c1 y ++ (kB b3 b5 lb wb rb (f3V z) ++ (c2 :: K)))) :
  Calls Tryz.prog 69 #[.slice sa 1 sc, .func (.func 71) #[] #[ptr b3, ptr b5]] w fun e w' => e = .returned (.slice sa 1 sc) ∧ Own B w0 w' (xL lb wb rb vc va c1 (leanV z) ++ (kB b3 b5 lb wb rb (f3V z) ++ (c2 :: K))) := by
 refine calls_of_run (F := [(0, _), (1, _)]) Tryz.func69 rfl Tryz.ntmps69 rfl rfl ?_
 have hO0 := Own.init w
 refine run_seq <| run_region <| rl_v rfl rfl rfl (ov_assign rfl rfl) <| rl_nil <| run_seq <| run_region <| rl_v rfl rfl rfl (ov_move rfl rfl) <| rl_v rfl rfl rfl (ov_move rfl rfl) ?_
 refine rl_call callable_86 rfl rfl rfl rfl rfl rfl (indexZ3_any z hz h1 hds lb wb rb vc va c1 hr B w0 b3 b5 sa sc c2 hr2 y K _ hO) (fun e1 w2 hp3 => ?_)
 obtain ⟨rfl, hOa⟩ := hp3
 refine ⟨_, rfl, ?_⟩
 refine rl_v rfl rfl rfl (ov_assign rfl rfl) <| rl_nil <| run_seq <| run_seq <| run_region <| rl_v rfl rfl rfl (ov_move rfl rfl) <| rl_v rfl rfl rfl (ov_eql rfl rfl rfl) <| rl_nil ?_
 first | refine run_cond_dec rfl (fun q1 => ?_) (fun q1 => ?_) | refine run_cond rfl (fun q1 => ?_) (fun q1 => ?_)
 ·refine run_seq <| run_region <| rl_v rfl rfl rfl (ov_move rfl rfl) <| rl_v rfl rfl rfl (ov_assign rfl rfl) <| rl_nil <| run_ret Tryz.func69 (res1 Tryz.results69 rfl) ?_
  exact ⟨rfl, hOa⟩
 ·exfalso; (exact q1 rfl)
set_option maxHeartbeats 4000000 in
theorem kept3_any (y : Int) (K : List (Option Blk)) (w : World) (hO : Own B w0 w (xL lb wb rb vc va c1 y ++ K)) :
  Calls Tryz.prog 44 #[.slice va 1 vc, f3C lb wb rb] w fun e w' => ∃ (sa : Option Addr) (sc : Nat) (c2 : Option Blk), e = .returned (.slice sa 1 sc) ∧ SRow (.slice sa 1 sc) 69 4 1 (znF z) c2 ∧ Own B w0 w' (c2 :: (xL lb wb rb vc va c1 (leanV z) ++ K)) := by
 obtain ⟨vb, hvb⟩ := hr.addr
 have hf3 : -1000000000 ≤ f3V z ∧ f3V z ≤ 1000000000 := by
  have hf := hz.f 0 (by omega) (by omega)
  have ht := hz.t 0 (by omega) (by omega)
  unfold f3V pckZ
  split
  ·rw [if_neg (by omega), if_neg (by omega)]; omega
  ·omega
 refine calls_of_run (F := [(0, _), (1, _)]) Tryz.func44 rfl Tryz.ntmps44 rfl rfl <| run_seq <| run_region <| rl_ow rfl (ow_box _ rfl rfl rfl rfl rfl hO) ?_
 rintro _ w1 ⟨b3, rfl, hO2, hs3⟩
 have hO1 : Own B w0 w1 (xL lb wb rb vc va c1 y ++ (some (lch b3 71 [f3C lb wb rb]) :: K)) := (hO2.perm List.perm_middle.symm)
 refine rl_v rfl rfl rfl (ov_assign rfl rfl) <| rl_nil <| run_seq <| Run.keep [0, 3] (F' := [(0, _), (3, _)]) rfl <| run_join1 (fun (b5 : Nat) => [(5, ptr b5)]) [0, 3] (fun (b5 : Nat) (w4 : World) => Own B w0 w4 (xL lb wb rb vc va c1 (leanV z) ++ (kB b3 b5 lb wb rb (f3V z) ++ K))) (fun hk5 => ?_) ?_
 ·refine run_late (fun w' => Own B w0 w' ([c1, some (lch b3 71 [f3C lb wb rb])])) 6 mixed ?_
  have hO7 := hO1.drew
  generalize World.drew w1 = w6 at hO7 ⊢
  have hS8 : Own B w0 w6 ([c1, some (lch b3 71 [f3C lb wb rb])]) := by first | exact hO7.sub (.cons _ (.cons _ (.cons _ (.cons_cons _ (.cons_cons _ (List.nil_sublist _)))))) | exact hO7.sub (.cons _ (.cons _ (.cons _ (.cons _ (.cons_cons _ (.cons_cons _ (List.nil_sublist _)))))))
  refine rhl_v 0 rfl (by kernel_rfl) rfl rfl rfl hS8 (fun _ hS => ov_load rfl Tryz.underlying71 rfl rfl (by exact hS.cellL 1 rfl (off := 0) rfl)) ?_
  refine rhl_v 1 rfl (by kernel_rfl) rfl rfl rfl hS8 (fun _ hS => ov_move rfl rfl) ?_
  refine rhl_v 2 rfl (by kernel_rfl) rfl rfl rfl hS8 (fun _ hS => ov_index rfl Tryz.underlying66 (by kernel_rfl) (s := 4) rfl rfl ⟨by omega, by omega⟩ (by exact hvb (by omega))) ?_
  refine rhl_v 3 rfl (by kernel_rfl) rfl rfl rfl hS8 (fun _ hS => ov_loadE rfl Tryz.underlying69 rfl (by kernel_rfl) rfl ⟨by omega, by omega⟩ rfl ((hr.cellU hS 0 rfl (hvb (by omega))))) ?_
  refine rhl_any2 4 5 (by kernel_rfl) ?_ ?_
  ·refine rcl_op rfl rfl (ow_call2 callable_41 rfl rfl rfl rfl rfl (price3_any z hz h1 hds lb wb rb vc va c1 hr B w0 y (some (lch b3 71 [f3C lb wb rb]) :: K) _ hO7) (by intro e w' hp; obtain ⟨rfl, hOa⟩ := hp; exact ⟨_, rfl⟩)) ?_
   rintro _ w11 ⟨_, v9, he12, rfl, hp10⟩
   obtain ⟨rfl, hOa⟩ := hp10
   injection he12 with he12; subst he12
   have hS13 : Own B w0 w11 ([c1, some (lch b3 71 [f3C lb wb rb])]) := by first | exact hOa.sub (.cons _ (.cons _ (.cons _ (.cons_cons _ (.cons_cons _ (List.nil_sublist _)))))) | exact hOa.sub (.cons _ (.cons _ (.cons _ (.cons _ (.cons_cons _ (.cons_cons _ (List.nil_sublist _)))))))
   refine ⟨hS13, ?_⟩
   refine rhl_any1 5 (by kernel_rfl) ?_
   refine rcl_op rfl rfl (ow_alloc _ rfl rfl rfl zero_2 rfl hOa) ?_
   rintro _ w14 ⟨b5, rfl, hO15, hs16⟩
   have hS17 : Own B w0 w14 ([c1, some (lch b3 71 [f3C lb wb rb])]) := by first | exact hO15.sub (.cons _ (.cons _ (.cons _ (.cons_cons _ (.cons_cons _ (List.nil_sublist _)))))) | exact hO15.sub (.cons _ (.cons _ (.cons _ (.cons _ (.cons_cons _ (.cons_cons _ (List.nil_sublist _)))))))
   refine ⟨hS17, ?_⟩
   refine rhl_any1 6 (by kernel_rfl) ?_
   refine rcl_last rfl rfl (ow_storeL rfl rfl (by kernel_rfl) hO15 0 rfl rfl rfl rfl rfl) ?_
   rintro _ w18 ⟨rfl, hO19, hs20⟩
   refine rhl_done (by kernel_rfl) ?_
   refine Run.use (hk5 (b5) _ ?_) (And.intro rfl (And.intro rfl (And.intro rfl trivial)))
   exact hO19.perm List.perm_middle.symm
  ·refine rcl_op rfl rfl (ow_alloc _ rfl rfl rfl zero_2 rfl hO7) ?_
   rintro _ w21 ⟨b5, rfl, hO22, hs23⟩
   have hS24 : Own B w0 w21 ([c1, some (lch b3 71 [f3C lb wb rb])]) := by first | exact hO22.sub (.cons _ (.cons _ (.cons _ (.cons_cons _ (.cons_cons _ (List.nil_sublist _)))))) | exact hO22.sub (.cons _ (.cons _ (.cons _ (.cons _ (.cons_cons _ (.cons_cons _ (List.nil_sublist _)))))))
   refine ⟨hS24, ?_⟩
   refine rhl_any1 4 (by kernel_rfl) ?_
   refine rcl_op rfl rfl (ow_call2 callable_41 rfl rfl rfl rfl rfl (price3_any z hz h1 hds lb wb rb vc va c1 hr B w0 y (some (lch b5 2 [iv 0]) :: some (lch b3 71 [f3C lb wb rb]) :: K) _ (hO22.perm List.perm_middle.symm)) (by intro e w' hp; obtain ⟨rfl, hOa⟩ := hp; exact ⟨_, rfl⟩)) ?_
   rintro _ w27 ⟨_, v25, he28, rfl, hp26⟩
   obtain ⟨rfl, hOa⟩ := hp26
   injection he28 with he28; subst he28
   have hOb : Own B w0 w27 (some (lch b5 2 [iv 0]) :: (xL lb wb rb vc va c1 (leanV z) ++ (some (lch b3 71 [f3C lb wb rb]) :: K))) := hOa.perm List.perm_middle
   have hS29 : Own B w0 w27 ([c1, some (lch b3 71 [f3C lb wb rb])]) := by first | exact hOb.sub (.cons _ (.cons _ (.cons _ (.cons_cons _ (.cons_cons _ (List.nil_sublist _)))))) | exact hOb.sub (.cons _ (.cons _ (.cons _ (.cons _ (.cons_cons _ (.cons_cons _ (List.nil_sublist _)))))))
   refine ⟨hS29, ?_⟩
   refine rhl_any1 6 (by kernel_rfl) ?_
   refine rcl_last rfl rfl (ow_storeL rfl rfl (by kernel_rfl) hOb 0 rfl rfl rfl rfl rfl) ?_
   rintro _ w30 ⟨rfl, hO31, hs32⟩
   refine rhl_done (by kernel_rfl) ?_
   refine Run.use (hk5 (b5) _ ?_) (And.intro rfl (And.intro rfl (And.intro rfl trivial)))
   exact hO31.perm List.perm_middle.symm
 ·intro b5 w4 hJw4
  have hO5 := hJw4
  show Run _ _ _ _ [(5, _), (0, _), (3, _)] _ _
  refine run_seq <| run_seq <| run_region <| rl_v rfl rfl rfl (ov_move rfl rfl) <| rl_v rfl rfl rfl (ov_len rfl Tryz.underlying66 rfl) <| rl_v rfl rfl rfl (ov_move rfl rfl) <| rl_nil <| run_block <| run_once <| run_seq <| run_region <| rl_v rfl rfl rfl (ov_lss rfl rfl rfl) <| rl_nil <| run_seq ?_
  first | refine run_cond_dec rfl (fun q1 => ?_) (fun q1 => ?_) | refine run_cond rfl (fun q1 => ?_) (fun q1 => ?_)
  ·refine run_skip <| run_seq <| run_block <| run_seq <| run_region <| rl_v rfl rfl rfl (ov_index rfl Tryz.underlying66 (by kernel_rfl) (s := 4) rfl rfl ⟨by omega, by omega⟩ (by exact hvb (by omega))) ?_
   refine rl_v rfl rfl rfl (ov_loadE rfl Tryz.underlying69 rfl (by kernel_rfl) rfl ⟨by omega, by omega⟩ rfl ((hr.cellU hO5 3 rfl (hvb (by omega))))) ?_
   refine rl_ow rfl (ow_alloc _ rfl rfl rfl zero_69 rfl hO5) ?_
   rintro _ w33 ⟨x7, rfl, hO34, hs35⟩
   refine rl_ow rfl (ow_storeW rfl rfl (by kernel_rfl) hO34 0 rfl rfl (by rfl) rfl (by rfl)) ?_
   rintro _ w36 ⟨rfl, hO37, hs38⟩
   have hO6 : Own B w0 w36 (xL lb wb rb vc va c1 (leanV z) ++ (some (lch x7 69 (znF z 0)) :: (kB b3 b5 lb wb rb (f3V z) ++ K))) := (hO37.perm List.perm_middle.symm)
   refine rl_nil <| run_late (fun w' => Own B w0 w' ((some (lch x7 69 (znF z 0)) :: kB b3 b5 lb wb rb (f3V z)))) 5 mixed ?_
   have hO40 := hO6.drew
   generalize World.drew w36 = w39 at hO40 ⊢
   have hS41 : Own B w0 w39 ((some (lch x7 69 (znF z 0)) :: kB b3 b5 lb wb rb (f3V z))) := by exact hO40.sub (.cons _ (.cons _ (.cons _ (.cons _ (.cons_cons _ (.cons_cons _ (.cons_cons _ (List.nil_sublist _))))))))
   refine rhl_v 0 rfl (by kernel_rfl) rfl rfl rfl hS41 (fun _ hS => ov_load rfl Tryz.underlying2 rfl rfl (by exact hS.cellL 1 rfl (off := 0) rfl)) ?_
   refine rhl_v 1 rfl (by kernel_rfl) rfl rfl rfl hS41 (fun _ hS => ov_load rfl Tryz.underlying71 rfl rfl (by exact hS.cellL 2 rfl (off := 0) rfl)) ?_
   refine rhl_v 2 rfl (by kernel_rfl) rfl rfl rfl hS41 (fun _ hS => ov_loadW rfl Tryz.underlying69 rfl (by kernel_rfl) rfl hS 0 rfl) ?_
   refine rhl_any1 3 (by kernel_rfl) ?_
   refine rcl_op rfl rfl (ow_call2 callable_41 rfl rfl rfl rfl rfl (price3_any z hz h1 hds lb wb rb vc va c1 hr B w0 (leanV z) (some (lch x7 69 (znF z 0)) :: (kB b3 b5 lb wb rb (f3V z) ++ K)) _ hO40) (by intro e w' hp; obtain ⟨rfl, hOa⟩ := hp; exact ⟨_, rfl⟩)) ?_
   rintro _ w44 ⟨_, v42, he45, rfl, hp43⟩
   obtain ⟨rfl, hOa⟩ := hp43
   injection he45 with he45; subst he45
   have hS46 : Own B w0 w44 ((some (lch x7 69 (znF z 0)) :: kB b3 b5 lb wb rb (f3V z))) := by exact hOa.sub (.cons _ (.cons _ (.cons _ (.cons _ (.cons_cons _ (.cons_cons _ (.cons_cons _ (List.nil_sublist _))))))))
   refine ⟨hS46, ?_⟩
   refine rhl_v 4 rfl (by kernel_rfl) rfl rfl rfl hS46 (fun _ hS => ov_min rfl rfl rfl) ?_
   refine rhl_any1 5 (by kernel_rfl) ?_
   refine rcl_last rfl rfl (ow_storeL rfl rfl (by kernel_rfl) hOa 5 rfl rfl rfl rfl rfl) ?_
   rintro _ w47 ⟨rfl, hO48, hs49⟩
   have hO7 : Own B w0 w47 (xL lb wb rb vc va c1 (leanV z) ++ (some (lch x7 69 (znF z 0)) :: (kB b3 b5 lb wb rb (f3V z) ++ K))) := by
    have h9 := hO48
    rw [show min (f3V z) (f3V z) = f3V z by omega] at h9
    exact h9
   refine rhl_done (by kernel_rfl) ?_
   refine run_inBlock <| run_region <| rl_v rfl rfl rfl (ov_add rfl rfl rfl (by omega)) ?_
   refine rl_v rfl rfl rfl (ov_move rfl rfl) <| rl_nil <| run_again <| run_seq <| run_region <| rl_v rfl rfl rfl (ov_lss rfl rfl rfl) <| rl_nil <| run_seq ?_
   first | refine run_cond_dec rfl (fun q2 => ?_) (fun q2 => ?_) | refine run_cond rfl (fun q2 => ?_) (fun q2 => ?_)
   ·exfalso; omega
   ·refine run_exit rfl <| run_seq <| run_region <| rl_v rfl rfl rfl (ov_move rfl rfl) ?_
    refine rl_call callable_70 rfl rfl rfl rfl rfl rfl (cloneZ_any va 1 vc z _ (by omega) (hr.reads hO7 3 rfl)) (fun e50 w51 hp52 => ?_)
    obtain ⟨v26, c26, rfl, hr26, hOc⟩ := hp52
    refine ⟨_, rfl, ?_⟩
    have hO53 := hO7.join hOc
    obtain ⟨sa, sc, rfl⟩ := Row.val hr26
    have hO8a : Own B w0 w51 (c26 :: (xL lb wb rb vc va c1 (leanV z) ++ (some (lch x7 69 (znF z 0)) :: (kB b3 b5 lb wb rb (f3V z) ++ K)))) := hO53
    have hO8b : Own B w0 w51 (c26 :: (xL lb wb rb vc va c1 (leanV z) ++ (kB b3 b5 lb wb rb (f3V z) ++ K))) := hO8a.sub (.cons_cons _ ((List.sublist_cons_self _ _).append_left _))
    have hO8c : Own B w0 w51 (xL lb wb rb vc va c1 (leanV z) ++ (c26 :: (kB b3 b5 lb wb rb (f3V z) ++ K))) := hO8b.perm (List.perm_middle (l₁ := xL lb wb rb vc va c1 (leanV z))).symm
    have hO8 : Own B w0 w51 (xL lb wb rb vc va c1 (leanV z) ++ (kB b3 b5 lb wb rb (f3V z) ++ (c26 :: K))) := hO8c.perm ((List.perm_middle (l₁ := kB b3 b5 lb wb rb (f3V z))).symm.append_left _)
    refine rl_v rfl rfl rfl (ov_func rfl rfl rfl) ?_
    refine rl_call callable_69 rfl rfl rfl rfl rfl rfl (deleteZ3_any z hz h1 hds lb wb rb vc va c1 hr B w0 b3 b5 sa sc c26 hr26 (leanV z) K _ hO8) (fun e54 w55 hp56 => ?_)
    obtain ⟨rfl, hOd⟩ := hp56
    refine ⟨_, rfl, ?_⟩
    refine rl_v rfl rfl rfl (ov_assign rfl rfl) <| rl_nil <| run_ret Tryz.func44 (res1 Tryz.results44 rfl) ?_
    exact ⟨sa, sc, c26, rfl, hr26, ((hOd.perm ((List.perm_middle (l₁ := kB b3 b5 lb wb rb (f3V z))).append_left _)).perm List.perm_middle).sub (.cons_cons _ ((List.sublist_append_right _ _).append_left _))⟩
  ·exfalso; omega
end
end Go.Proofs.YtbcjfjldmfljgaaGreat
