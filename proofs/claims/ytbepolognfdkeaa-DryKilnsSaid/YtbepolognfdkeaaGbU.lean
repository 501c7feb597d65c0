import Derived.Test.YtbepolognfdkeaaGbT
set_option maxRecDepth 100000
namespace Go.Proofs.Ytbepolognfdkeaa
open Go.RowKit Go.Proofs Go.MapKept
set_option maxHeartbeats 4000000 in
theorem planned7_any (la : Option Addr) (lc : Nat) (l : Lds) (k : Int) (w : World) (hk : l.chkK k = 0) (hI : l.I64) (hl : SAt w.heap.size w la 4 l.n (ldF l)) :
  Calls Try.prog 16 #[.slice la l.n lc, iv k] w fun e w' => e = .returned (.tuple #[.bool (decide (l.Can k)), .bool true]) ∧ Own w.heap.size w w' [] := by
 obtain ⟨h1, h2, h3, h4⟩ := Lds.chkK_ne hk
 have hV := h2
 refine calls_of_run (F := [(0, _), (1, _)]) Try.func16 rfl Try.ntmps16 rfl rfl ?_
 have hO0 := Own.init w
 refine run_seq <| run_region <| rl_v rfl rfl rfl (ov_assign rfl rfl) <| rl_v rfl rfl rfl (ov_assign rfl rfl) <| rl_nil <| run_seq <| run_region <| rl_v rfl rfl rfl (ov_move rfl rfl) ?_
 refine rl_call callable_15 rfl rfl rfl rfl rfl rfl (give7_any la lc l _ (by omega) (hO0.satU hl)) (fun e1 w2 hp3 => ?_)
 obtain ⟨va, vc, cx, rfl, hx, hOa⟩ := hp3
 refine ⟨_, rfl, ?_⟩
 have hO4 := hO0.join hOa
 refine rl_v rfl rfl rfl (ov_assign rfl rfl) <| rl_nil <| run_seq <| run_region <| rl_v rfl rfl rfl (ov_move rfl rfl) <| rl_v rfl rfl rfl (ov_move rfl rfl) ?_
 refine rl_call callable_28 rfl rfl rfl rfl rfl rfl (Plan_any va vc l k _ (by omega) hI (hx.reads hO4 0 rfl)) (fun e5 w6 hp7 => ?_)
 obtain ⟨ta, tc, T, ct, rfl, hP, hOb⟩ := hp7
 refine ⟨_, rfl, ?_⟩
 have hO8 := hO4.join hOb
 refine rl_v rfl rfl rfl (ov_move rfl rfl) <| rl_v rfl rfl rfl (ov_extract rfl rfl (by rfl)) ?_
 refine rl_v rfl rfl rfl (ov_extract rfl rfl (by rfl)) ?_
 refine rl_v rfl rfl rfl (ov_assign rfl rfl) <| rl_v rfl rfl rfl (ov_assign rfl rfl) <| rl_nil <| run_seq <| run_region <| rl_v rfl rfl rfl (ov_move rfl rfl) <| rl_v rfl rfl rfl (ov_move rfl rfl) ?_
 refine rl_call callable_29 rfl rfl rfl rfl rfl rfl (Proof_any va vc l k _ (by omega) hI (hx.reads hO8 1 rfl)) (fun e9 w10 hp11 => ?_)
 obtain ⟨xa, xn, xc, ha, hn, hc, Y, A, Bh, cy, ch, rfl, hC, hOc⟩ := hp11
 refine ⟨_, rfl, ?_⟩
 have hO12 := hO8.join hOc
 refine rl_v rfl rfl rfl (ov_move rfl rfl) <| rl_v rfl rfl rfl (ov_extract rfl rfl (by rfl)) ?_
 refine rl_v rfl rfl rfl (ov_extract rfl rfl (by rfl)) ?_
 refine rl_ow rfl (ow_alloc _ rfl rfl rfl zero_58 rfl hO12) ?_
 rintro _ w13 ⟨b9, rfl, hO14, hs15⟩
 refine rl_ow rfl (ow_storeW rfl rfl (by kernel_rfl) hO14 0 rfl rfl (by rfl) rfl (by rfl)) ?_
 rintro _ w16 ⟨rfl, hO17, hs18⟩
 refine rl_v rfl rfl rfl (ov_assign rfl rfl) <| rl_nil <| run_seq <| run_region <| rl_v rfl rfl rfl (ov_fieldS rfl Try.underlying58 rfl (fo := 0) rfl (by kernel_rfl) rfl) ?_
 refine rl_v rfl rfl rfl (ov_load rfl Try.underlying47 rfl rfl (by exact hO17.cellL 0 rfl (off := 0) rfl)) ?_
 refine rl_v rfl rfl rfl (ov_fieldS rfl Try.underlying58 rfl (fo := 1) rfl (by kernel_rfl) rfl) ?_
 refine rl_v rfl rfl rfl (ov_load rfl Try.underlying48 rfl rfl (by exact hO17.cellL 0 rfl (off := 1) rfl)) ?_
 refine rl_v rfl rfl rfl (ov_buildL rfl lay_50 rfl (us := [_, _]) rfl) <| rl_ow rfl (ow_alloc _ rfl rfl rfl zero_50 rfl hO17) ?_
 rintro _ w19 ⟨b11, rfl, hO20, hs21⟩
 refine rl_ow rfl (ow_storeW rfl rfl (by kernel_rfl) hO20 0 rfl rfl (by rfl) rfl (by rfl)) ?_
 rintro _ w22 ⟨rfl, hO23, hs24⟩
 refine rl_nil <| run_seq <| run_seq <| run_region <| rl_v rfl rfl rfl (ov_move rfl rfl) <| rl_v rfl rfl rfl (ov_eql rfl rfl rfl) <| rl_nil ?_
 first | refine run_cond_dec rfl (fun c1 => ?_) (fun c1 => ?_) | refine run_cond rfl (fun c1 => ?_) (fun c1 => ?_)
 ·obtain ⟨hk0, hcan⟩ := Lds.planE_zero c1
  obtain ⟨hpl, hord, hTl⟩ := hP.yes c1
  obtain ⟨rfl, rfl⟩ := hC.no_ fun h => h.2 hcan
  refine run_seq <| run_region <| rl_v rfl rfl rfl (ov_move rfl rfl) ?_
  refine rl_call callable_43 rfl rfl rfl rfl rfl rfl (turns7_any ta tc T _ hTl (hP.row.reads hO23 4 rfl)) (fun e25 w26 hp27 => ?_)
  obtain ⟨pa, pc, cp, rfl, hp, hOd⟩ := hp27
  refine ⟨_, rfl, ?_⟩
  have hO28 := hO23.join hOd
  refine rl_v rfl rfl rfl (ov_assign rfl rfl) <| rl_nil <| run_seq <| run_held (fun w' => Own w.heap.size w w' ([some (lch b9 58 (crL xa 0 xc ha 0 hc))])) mixed ?_
  have hO30 := hO28.drew
  generalize World.drew w26 = w29 at hO30 ⊢
  have hS31 : Own w.heap.size w w29 ([some (lch b9 58 (crL xa 0 xc ha 0 hc))]) := by exact hO30.sub (.cons _ (.cons _ (.cons_cons _ (List.nil_sublist _))))
  refine rh_v 0 rfl (by kernel_rfl) rfl rfl rfl hS31 (fun _ hS => ov_move rfl rfl) ?_
  refine rh_v 1 rfl (by kernel_rfl) rfl rfl rfl hS31 (fun _ hS => ov_move rfl rfl) ?_
  refine rh_v 2 rfl (by kernel_rfl) rfl rfl rfl hS31 (fun _ hS => ov_move rfl rfl) ?_
  refine rh_any1 3 (by kernel_rfl) ?_
  refine rc_op rfl rfl (ow_call2 callable_25 rfl rfl rfl rfl rfl (refPlan7_any la lc l k pa pc T _ h1 h4 hTl (hO30.satU hl) (hp.reads hO30 0 rfl)) (by intro e w' hp; obtain ⟨rfl, hOe⟩ := hp; exact ⟨_, rfl⟩)) ?_
  rintro _ w34 ⟨_, v32, he35, rfl, hp33⟩
  obtain ⟨rfl, hOe⟩ := hp33
  injection he35 with he35; subst he35
  have hO36 := hO30.join hOe
  have hS37 : Own w.heap.size w w34 ([some (lch b9 58 (crL xa 0 xc ha 0 hc))]) := by exact hO36.sub (.cons _ (.cons _ (.cons_cons _ (List.nil_sublist _))))
  refine ⟨hS37, ?_⟩
  refine rh_v 4 rfl (by kernel_rfl) rfl rfl rfl hS37 (fun _ hS => ov_move rfl rfl) ?_
  first | refine rh_yesD 41 rfl (hpl) ?_ | refine rh_yes 41 rfl (hpl) ?_
  refine rh_gv 5 rfl (by kernel_rfl) rfl rfl rfl rfl rfl hS37 (fun _ hS => ov_move rfl rfl) ?_
  refine rh_any1 6 (by kernel_rfl) ?_
  refine rc_gop rfl rfl rfl rfl (ow_call2 callable_44 rfl rfl rfl rfl rfl (ordered7_any pa pc T _ hTl (hp.reads hO36 0 rfl)) (by intro e w' hp; obtain ⟨rfl, hOf⟩ := hp; exact ⟨_, rfl⟩)) ?_
  rintro _ w40 ⟨_, v38, he41, rfl, hp39⟩
  obtain ⟨rfl, hOf⟩ := hp39
  injection he41 with he41; subst he41
  have hO42 := hO36.join hOf
  have hS43 : Own w.heap.size w w40 ([some (lch b9 58 (crL xa 0 xc ha 0 hc))]) := by exact hO42.sub (.cons _ (.cons _ (.cons_cons _ (List.nil_sublist _))))
  refine ⟨hS43, ?_⟩
  refine rh_v 7 rfl (by kernel_rfl) rfl rfl rfl hS43 (fun _ hS => ov_pick_t rfl rfl rfl) ?_
  refine rh_v 8 rfl (by kernel_rfl) rfl rfl rfl hS43 (fun _ hS => ov_move rfl rfl) ?_
  first | refine rh_yesD 45 rfl (hord.x) ?_ | refine rh_yes 45 rfl (hord.x) ?_
  refine rh_gv 9 rfl (by kernel_rfl) rfl rfl rfl rfl rfl hS43 (fun _ hS => ov_move rfl rfl) ?_
  refine rh_gv 10 rfl (by kernel_rfl) rfl rfl rfl rfl rfl hS43 (fun _ hS => ov_not rfl rfl) ?_
  refine rh_v 11 rfl (by kernel_rfl) rfl rfl rfl hS43 (fun _ hS => ov_pick_t rfl rfl rfl) ?_
  refine rh_v 12 rfl (by kernel_rfl) rfl rfl rfl hS43 (fun _ hS => ov_move rfl rfl) ?_
  first | refine rh_yesD 49 rfl (by simp [hcan]) ?_ | refine rh_yes 49 rfl (by simp [hcan]) ?_
  refine rh_gv 13 rfl (by kernel_rfl) rfl rfl rfl rfl rfl hS43 (fun _ hS => ov_fieldS rfl Try.underlying58 rfl (fo := 0) rfl (by kernel_rfl) rfl) ?_
  refine rh_gv 14 rfl (by kernel_rfl) rfl rfl rfl rfl rfl hS43 (fun _ hS => ov_load rfl Try.underlying47 rfl rfl (by exact hS.cellL 0 rfl (off := 0) rfl)) ?_
  refine rh_gv 15 rfl (by kernel_rfl) rfl rfl rfl rfl rfl hS43 (fun _ hS => ov_len rfl Try.underlying47 rfl) ?_
  refine rh_gv 16 rfl (by kernel_rfl) rfl rfl rfl rfl rfl hS43 (fun _ hS => ov_eql rfl rfl rfl) ?_
  refine rh_v 17 rfl (by kernel_rfl) rfl rfl rfl hS43 (fun _ hS => ov_pick_t rfl rfl rfl) ?_
  refine rh_v 18 rfl (by kernel_rfl) rfl rfl rfl hS43 (fun _ hS => ov_move rfl rfl) ?_
  first | refine rh_yesD 55 rfl (rfl) ?_ | refine rh_yes 55 rfl (rfl) ?_
  refine rh_gv 19 rfl (by kernel_rfl) rfl rfl rfl rfl rfl hS43 (fun _ hS => ov_fieldS rfl Try.underlying58 rfl (fo := 1) rfl (by kernel_rfl) rfl) ?_
  refine rh_gv 20 rfl (by kernel_rfl) rfl rfl rfl rfl rfl hS43 (fun _ hS => ov_load rfl Try.underlying48 rfl rfl (by exact hS.cellL 0 rfl (off := 1) rfl)) ?_
  refine rh_gv 21 rfl (by kernel_rfl) rfl rfl rfl rfl rfl hS43 (fun _ hS => ov_len rfl Try.underlying48 rfl) ?_
  refine rh_gv 22 rfl (by kernel_rfl) rfl rfl rfl rfl rfl hS43 (fun _ hS => ov_eql rfl rfl rfl) ?_
  refine rh_v 23 rfl (by kernel_rfl) rfl rfl rfl hS43 (fun _ hS => ov_pick_t rfl rfl rfl) ?_
  refine rh_v 24 rfl (by kernel_rfl) rfl rfl rfl hS43 (fun _ hS => ov_assign rfl rfl) ?_
  refine rh_v 25 rfl (by kernel_rfl) rfl rfl rfl hS43 (fun _ hS => ov_assign rfl rfl) ?_
  refine rh_done (by kernel_rfl) ?_
  refine run_ret Try.func16 (res2 Try.results16 rfl rfl) ?_
  exact ⟨by rw [decide_eq_true hcan]; rfl, hO42.sub (List.nil_sublist _)⟩
 ·have hcan : ¬ l.Can k := fun h => c1 (Lds.planE_ok hk h)
  have hE := Lds.planE_late hk hcan
  have hT0 := hP.no_ (by rw [hE]; decide)
  subst hT0
  obtain ⟨hri, hpr⟩ := hC.yes hk hcan
  obtain ⟨gb, hgb, hgr⟩ := hC.x.openS (hO23.sub (.cons _ (.cons _ (.cons_cons _ (List.nil_sublist _))))) 0 rfl
  have hxl : xn ≤ 256 := by
   have h9 := hpr.lds
   exact Nat.le_trans (pigeonG (fun j j0 j1 => h9 j j0 j1) fun a b a0 a1 b0 b1 e => by
    rcases Int.lt_trichotomy a b with d | d | d
    ·exact absurd e (hpr.uni a b a0 d b1)
    ·exact d
    ·exact absurd e.symm (hpr.uni b a b0 d a1)) h1
  refine run_skip <| run_seq <| run_seq <| run_region <| rl_v rfl rfl rfl (ov_assign rfl rfl) <| rl_nil <| run_block <| Run.keep [0, 1, 7, 8, 9, 10, 11, 13] (F' := [(0, _), (1, _), (7, _), (8, _), (9, _), (10, _), (11, _), (13, _)]) rfl <| run_loop1 (fun (i : Nat) => [(13, .int .i64 (i : Int))]) [0, 1, 7, 8, 9, 10, 11] (fun (i : Nat) (w44 : World) => 1 ≤ i ∧ (i ≤ xn ∨ i = 1) ∧ Own w.heap.size w w44 [some (lch b11 50 (crL xa xn xc ha hn hc)), some (lch b9 58 (crL xa xn xc ha hn hc)), cy, ch, ct, cx]) (fun (i : Nat) => xn - i) (1) ?_ (And.intro (by exact slot_int rfl (by first | omega)) (And.intro rfl (And.intro rfl (And.intro rfl (And.intro rfl (And.intro rfl (And.intro rfl (And.intro rfl trivial)))))))) ?_
  ·exact ⟨Nat.le_refl _, .inr rfl, hO23⟩
  intro i w44 hIw44 ih45
  obtain ⟨hi, hi2, hOd⟩ := hIw44
  show Run _ _ _ _ [(13, _), (0, _), (1, _), (7, _), (8, _), (9, _), (10, _), (11, _)] _ _
  refine run_seq <| run_seq <| run_region <| rl_v rfl rfl rfl (ov_move rfl rfl) <| rl_v rfl rfl rfl (ov_fieldS rfl Try.underlying58 rfl (fo := 0) rfl (by kernel_rfl) rfl) ?_
  refine rl_v rfl rfl rfl (ov_load rfl Try.underlying47 rfl rfl (by exact hOd.cellL 1 rfl (off := 0) rfl)) ?_
  refine rl_v rfl rfl rfl (ov_len rfl Try.underlying47 rfl) <| rl_v rfl rfl rfl (ov_lss rfl rfl rfl) <| rl_nil ?_
  first | refine run_cond_dec rfl (fun c3 => ?_) (fun c3 => ?_) | refine run_cond rfl (fun c3 => ?_) (fun c3 => ?_)
  ·have hinc := hri.inc ((i : Int) - 1) i (by omega) (by omega) c3
   refine run_skip <| run_seq <| run_block <| run_seq <| run_quiet mixed (by kernel_rfl) ?_
   refine rq_v rfl rfl rfl (fun _ => ov_fieldS rfl Try.underlying58 rfl (fo := 0) rfl (by kernel_rfl) rfl) ?_
   refine rq_v rfl rfl rfl (fun _ => ov_load rfl Try.underlying47 rfl rfl (by show World.cell? w44 _ = _; first | exact hOd.cellL 1 rfl (off := 0) rfl)) ?_
   refine rq_v rfl rfl rfl (fun _ => ov_move rfl rfl) ?_
   refine rq_v rfl rfl rfl (fun _ => ov_sub rfl rfl rfl (by omega)) ?_
   refine rq_v rfl rfl rfl (fun _ => ov_index1 rfl Try.underlying47 (by kernel_rfl) rfl rfl ⟨by omega, by omega⟩ (by exact hgb (by omega))) ?_
   refine rq_v rfl rfl rfl (fun _ => ov_load rfl Try.underlying3 rfl rfl (by show World.cell? w44 _ = _; first | exact hC.x.cellU hOd 2 rfl (hgb (by omega)) (i := (i : Int) - 1) (by omega) (by omega))) ?_
   refine rq_v rfl rfl rfl (fun _ => ov_fieldS rfl Try.underlying58 rfl (fo := 0) rfl (by kernel_rfl) rfl) ?_
   refine rq_v rfl rfl rfl (fun _ => ov_load rfl Try.underlying47 rfl rfl (by show World.cell? w44 _ = _; first | exact hOd.cellL 1 rfl (off := 0) rfl)) ?_
   refine rq_v rfl rfl rfl (fun _ => ov_move rfl rfl) ?_
   refine rq_v rfl rfl rfl (fun _ => ov_index1 rfl Try.underlying47 (by kernel_rfl) rfl rfl ⟨by omega, by omega⟩ (by exact hgb (by omega))) ?_
   refine rq_v rfl rfl rfl (fun _ => ov_load rfl Try.underlying3 rfl rfl (by show World.cell? w44 _ = _; first | exact hC.x.cellU hOd 2 rfl (hgb (by omega)) (i := i) (by omega) (by omega))) ?_
   refine rq_v rfl rfl rfl (fun _ => ov_geq rfl rfl rfl) ?_
   refine rq_nil (fun n46 => ?_)
   have hO48 := hOd.drewN n46
   generalize World.drewN w44 n46 = w47 at hO48 ⊢
   first | refine run_cond_dec rfl (fun c4 => ?_) (fun c4 => ?_) | refine run_cond rfl (fun c4 => ?_) (fun c4 => ?_)
   ·exfalso; omega
   ·refine run_skip <| run_inBlock <| run_region <| rl_v rfl rfl rfl (ov_move rfl rfl) <| rl_v rfl rfl rfl (ov_add rfl rfl rfl (by omega)) ?_
    refine rl_v rfl rfl rfl (ov_assign rfl rfl) <| rl_nil ?_
    refine Run.use (ih45 (i + 1) _ ?_ ?_) (And.intro (by exact slot_int rfl (by first | omega)) (And.intro rfl (And.intro rfl (And.intro rfl (And.intro rfl (And.intro rfl (And.intro rfl (And.intro rfl trivial))))))))
    ·first | omega | (dsimp only; omega)
    ·exact ⟨by omega, by omega, hO48⟩
  ·rw [hE]
   refine run_exit rfl <| run_seq <| run_region <| rl_v rfl rfl rfl (ov_move rfl rfl) <| rl_v rfl rfl rfl (ov_eql rfl rfl rfl) <| rl_v rfl rfl rfl (ov_move rfl rfl) ?_
   first | refine rl_yesD 82 rfl (rfl) ?_ | refine rl_yes 82 rfl (rfl) ?_
   refine rl_gv rfl rfl rfl rfl rfl (ov_move rfl rfl) <| rl_gv rfl rfl rfl rfl rfl (ov_len rfl Try.underlying51 rfl) <| rl_gv rfl rfl rfl rfl rfl (ov_eql rfl rfl rfl) <| rl_v rfl rfl rfl (ov_pick_t rfl rfl rfl) <| rl_v rfl rfl rfl (ov_move rfl rfl) ?_
   first | refine rl_yesD 87 rfl (rfl) ?_ | refine rl_yes 87 rfl (rfl) ?_
   refine rl_gv rfl rfl rfl rfl rfl (ov_move rfl rfl) <| rl_v rfl rfl rfl (ov_pick_t rfl rfl rfl) <| rl_v rfl rfl rfl (ov_move rfl rfl) ?_
   first | refine rl_yesD 90 rfl (⟨hk, hcan⟩) ?_ | refine rl_yes 90 rfl (⟨hk, hcan⟩) ?_
   refine rl_gv rfl rfl rfl rfl rfl (ov_move rfl rfl) <| rl_gv rfl rfl rfl rfl rfl (ov_move rfl rfl) <| rl_gv rfl rfl rfl rfl rfl (ov_loadW rfl Try.underlying50 rfl (by kernel_rfl) rfl hOd 0 rfl) ?_
   refine rl_gcall callable_27 rfl rfl rfl rfl rfl rfl rfl rfl (refProves7_any la lc l k xa xn xc ha hn hc Y A Bh _ h1 h4 (by omega) (Nat.le_trans hC.len (by decide)) (by omega) (hOd.satU hl) (hC.x.reads hOd 2 rfl) (hC.h.reads hOd 3 rfl)) (fun e49 w50 hp51 => ?_)
   obtain ⟨rfl, hOe⟩ := hp51
   refine ⟨_, rfl, ?_⟩
   have hO52 := hOd.join hOe
   refine rl_v rfl rfl rfl (ov_pick_t rfl rfl rfl) <| rl_v rfl rfl rfl (ov_assign rfl rfl) <| rl_v rfl rfl rfl (ov_assign rfl rfl) <| rl_nil <| run_ret Try.func16 (res2 Try.results16 rfl rfl) ?_
   exact ⟨by rw [decide_eq_false hcan, decide_eq_true hpr], hO52.sub (List.nil_sublist _)⟩
end Go.Proofs.Ytbepolognfdkeaa
