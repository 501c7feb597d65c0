import Derived.Test.YteagflekbbchhaaRfB
set_option maxRecDepth 100000
namespace Go.Proofs.Yteagflekbbchhaa
open Go.RowKit Go.Proofs Go.MapKept
def W2 (B : Nat) (w0 w : World) (A1 : WA) (X1 : MW) (A2 : WA) (X2 : MW) (R : List (Option Blk)) : Prop :=
 ∃ K1 K2 N, Own B w0 w (WC.M A1 X1 K1 ++ (WC.M A2 X2 K2 ++ (N ++ R))) ∧ WOk X1 K1 N ∧ WOk X2 K2 N
theorem perm7 {α : Type} (a b c d e f g : α) : [a, b, c, d, e, f, g].Perm [g, c, b, a, d, e, f] := by
 have h1 : [a, b, c, d, e, f, g].Perm (g :: [a, b, c, d, e, f]) := (List.perm_append_comm (l₁ := [a, b, c, d, e, f]) (l₂ := [g]))
 have h2 : [a, b, c, d, e, f].Perm (c :: [a, b, d, e, f]) := List.perm_middle (l₁ := [a, b]) (l₂ := [d, e, f])
 have h3 : [a, b, d, e, f].Perm (b :: [a, d, e, f]) := List.perm_middle (l₁ := [a]) (l₂ := [d, e, f])
 exact h1.trans ((h2.trans (h3.cons _)).cons _)
theorem permW {α : Type} (a b c d e f g : α) (M N R : List α) : (a :: b :: c :: d :: e :: f :: g :: (M ++ (N ++ R))).Perm (M ++ ([g, c, b, a, d, e] ++ ((f :: N) ++ R))) := by
 have h1 : ([a, b, c, d, e, f, g] ++ (M ++ (N ++ R))).Perm ([g, c, b, a, d, e, f] ++ (M ++ (N ++ R))) := (perm7 a b c d e f g).append_right _
 have h2 : ([g, c, b, a, d, e, f] ++ (M ++ (N ++ R))).Perm ([g, c, b, a, d, e] ++ (M ++ ((f :: N) ++ R))) := by
  show ([g, c, b, a, d, e] ++ (f :: (M ++ (N ++ R)))).Perm _
  exact List.Perm.append_left _ (List.perm_middle (l₁ := M)).symm
 have h3 : ∀ Q : List α, ([g, c, b, a, d, e] ++ (M ++ Q)).Perm (M ++ ([g, c, b, a, d, e] ++ Q)) := fun Q => by
  rw [← List.append_assoc, ← List.append_assoc]
  exact List.Perm.append_right _ List.perm_append_comm
 exact h1.trans (h2.trans (h3 _))
theorem fork_any (A : WA) (X : MW) (B : Nat) (R : List (Option Blk)) (w0 w : World) (hG : Good X) (hb : X.bag.length ≤ 4000000000000) (h : WAt B w0 w A X [] R) :
  Calls Try.prog 46 #[ptr A.W] w fun e w' => ∃ A2, e = .returned (ptr A2.W) ∧ W2 B w0 w' A X A2 X R := by
 have hdn := hG.dn
 obtain ⟨⟨dv, bv, rc, r1, r2, v1, v2, L, mb, cb⟩, N, hO, hK, _⟩ := h
 have hK0 := hK
 obtain ⟨hdv, hbv, hrc, hr1, hr2, hv1, hv2, hmp⟩ := hK
 dsimp only at hdv hbv hrc hr1 hr2 hv1 hv2 hmp
 obtain ⟨dao, dcap, rfl, _⟩ := hdv.val
 obtain ⟨bao, bcap, rfl⟩ := hbv.val
 obtain ⟨q0, p0, rfl, _⟩ := hrc.val
 obtain ⟨q1, p1, rfl, _⟩ := hr1.val
 obtain ⟨q2, p2, rfl, _⟩ := hr2.val
 obtain ⟨u1, y1, rfl, _⟩ := hv1.val
 obtain ⟨u2, y2, rfl, _⟩ := hv2.val
 refine calls_of_run (F := [(0, _)]) Try.func46 rfl Try.ntmps46 rfl rfl <| run_seq <| run_region <| rl_v rfl rfl rfl (ov_assign rfl rfl) <| rl_nil <| run_seq <| run_seq <| run_region <| rl_v rfl rfl rfl (ov_move rfl rfl) <| rl_v rfl rfl rfl (ov_ptrnil rfl Try.underlying27 rfl) <| rl_nil <| run_cond_f rfl <| run_skip <| run_seq <| run_region <| rl_v rfl rfl rfl (ov_move rfl rfl) <| rl_v rfl rfl rfl (ov_nil rfl rfl) <| rl_v rfl rfl rfl (ov_loadW rfl Try.underlying97 rfl (by kernel_rfl) rfl hO 0 rfl) ?_
 refine rl_ow rfl (ow_alloc _ rfl rfl rfl zero_97 rfl hO) ?_
 rintro _ w1 ⟨b3, rfl, hO2, hs3⟩
 refine rl_ow rfl (ow_storeW rfl rfl (by kernel_rfl) hO2 0 rfl rfl (by rfl) rfl (by rfl)) ?_
 rintro _ w4 ⟨rfl, hO5, hs6⟩
 refine rl_nil <| run_seq <| run_held (fun w' => Own B w0 w' ([some (lch A.W 97 [iv X.mem, iv X.pat, .slice none 0 0, .slice none 0 0, .slice dao X.deals.length dcap, nodeV A 0, nodeV A 1, nodeV A 2, .slice bao X.bag.length bcap])])) mixed ?_
 have hO8 := hO5.drew
 generalize World.drew w4 = w7 at hO8 ⊢
 have hS9 : Own B w0 w7 ([some (lch A.W 97 [iv X.mem, iv X.pat, .slice none 0 0, .slice none 0 0, .slice dao X.deals.length dcap, nodeV A 0, nodeV A 1, nodeV A 2, .slice bao X.bag.length bcap])]) := by first | exact hO8.sub (.cons _ (.cons_cons _ (List.nil_sublist _))) | exact hO8.sub (.cons _ (.cons _ (.cons_cons _ (List.nil_sublist _)))) | exact hO8.sub (.cons _ (.cons _ (.cons _ (.cons_cons _ (List.nil_sublist _)))))
 refine rh_v 0 rfl (by kernel_rfl) rfl rfl rfl hS9 (fun _ hS => ov_move rfl rfl) ?_
 refine rh_v 1 rfl (by kernel_rfl) rfl rfl rfl hS9 (fun _ hS => ov_nil rfl rfl) ?_
 refine rh_v 2 rfl (by kernel_rfl) rfl rfl rfl hS9 (fun _ hS => ov_fieldS rfl Try.underlying97 rfl (fo := 4) rfl (by kernel_rfl) rfl) ?_
 refine rh_v 3 rfl (by kernel_rfl) rfl rfl rfl hS9 (fun _ hS => ov_load rfl Try.underlying52 rfl rfl (by exact hS.cellL 0 rfl (off := 4) rfl)) ?_
 refine rh_v 5 rfl (by kernel_rfl) rfl rfl rfl hS9 (fun _ hS => ov_move rfl rfl) ?_
 refine rh_v 6 rfl (by kernel_rfl) rfl rfl rfl hS9 (fun _ hS => ov_nil rfl rfl) ?_
 refine rh_v 7 rfl (by kernel_rfl) rfl rfl rfl hS9 (fun _ hS => ov_fieldS rfl Try.underlying97 rfl (fo := 8) rfl (by kernel_rfl) rfl) ?_
 refine rh_v 8 rfl (by kernel_rfl) rfl rfl rfl hS9 (fun _ hS => ov_load rfl Try.underlying79 rfl rfl (by exact hS.cellL 0 rfl (off := 8) rfl)) ?_
 refine rh_any1 4 (by kernel_rfl) ?_
 refine rc_op rfl rfl (ow_call2 callable_57 rfl rfl rfl rfl rfl (cloneD_any dao X.deals.length dcap B (cnt dll Dl.z X.deals) _ w0 w7 hO8 (Src.of_prow hdv (mem_c1 mem_app2)) (fun _ _ _ => ⟨rfl, rfl⟩) (by omega)) (by intro e w' hp; obtain ⟨v15, c15, rfl, hR15, hO15⟩ := hp; exact ⟨_, rfl⟩)) ?_
 rintro _ w12 ⟨_, v10, he13, rfl, hp11⟩
 obtain ⟨v15, c15, rfl, hR15, hO15⟩ := hp11
 injection he13 with he13; subst he13
 have hS14 : Own B w0 w12 ([some (lch A.W 97 [iv X.mem, iv X.pat, .slice none 0 0, .slice none 0 0, .slice dao X.deals.length dcap, nodeV A 0, nodeV A 1, nodeV A 2, .slice bao X.bag.length bcap])]) := by first | exact hO15.sub (.cons _ (.cons_cons _ (List.nil_sublist _))) | exact hO15.sub (.cons _ (.cons _ (.cons_cons _ (List.nil_sublist _)))) | exact hO15.sub (.cons _ (.cons _ (.cons _ (.cons_cons _ (List.nil_sublist _)))))
 refine ⟨hS14, ?_⟩
 refine rh_any1 9 (by kernel_rfl) ?_
 refine rc_op rfl rfl (ow_call2 callable_61 rfl rfl rfl rfl rfl (cloneM_any bao X.bag.length bcap B (cnt msl Ms.z X.bag) _ w0 w12 hO15 (Src.of_row hbv (k := 7) rfl) (fun _ _ _ => cnt_len) (by omega)) (by intro e w' hp; obtain ⟨v20, c20, rfl, hR20, hO20⟩ := hp; exact ⟨_, rfl⟩)) ?_
 rintro _ w17 ⟨_, v15, he18, rfl, hp16⟩
 obtain ⟨v20, c20, rfl, hR20, hO20⟩ := hp16
 injection he18 with he18; subst he18
 obtain ⟨ao15, cp15, rfl⟩ := hR15.val
 obtain ⟨ao20, cp20, rfl⟩ := hR20.val
 have hS19 : Own B w0 w17 ([some (lch A.W 97 [iv X.mem, iv X.pat, .slice none 0 0, .slice none 0 0, .slice dao X.deals.length dcap, nodeV A 0, nodeV A 1, nodeV A 2, .slice bao X.bag.length bcap])]) := by first | exact hO20.sub (.cons _ (.cons_cons _ (List.nil_sublist _))) | exact hO20.sub (.cons _ (.cons _ (.cons_cons _ (List.nil_sublist _)))) | exact hO20.sub (.cons _ (.cons _ (.cons _ (.cons_cons _ (List.nil_sublist _)))))
 refine ⟨hS19, ?_⟩
 refine rh_v 10 rfl (by kernel_rfl) rfl rfl rfl hS19 (fun _ hS => ov_fieldS rfl Try.underlying97 rfl (fo := 4) rfl (by kernel_rfl) rfl) ?_
 refine rh_any1 11 (by kernel_rfl) ?_
 refine rc_op rfl rfl (ow_storeL rfl rfl (by kernel_rfl) hO20 2 rfl rfl rfl rfl rfl) ?_
 rintro _ w20 ⟨rfl, hO21, hs22⟩
 have hS23 : Own B w0 w20 ([some (lch A.W 97 [iv X.mem, iv X.pat, .slice none 0 0, .slice none 0 0, .slice dao X.deals.length dcap, nodeV A 0, nodeV A 1, nodeV A 2, .slice bao X.bag.length bcap])]) := by first | exact hO21.sub (.cons _ (.cons_cons _ (List.nil_sublist _))) | exact hO21.sub (.cons _ (.cons _ (.cons_cons _ (List.nil_sublist _)))) | exact hO21.sub (.cons _ (.cons _ (.cons _ (.cons_cons _ (List.nil_sublist _)))))
 refine ⟨hS23, ?_⟩
 refine rh_v 12 rfl (by kernel_rfl) rfl rfl rfl hS23 (fun _ hS => ov_fieldS rfl Try.underlying97 rfl (fo := 8) rfl (by kernel_rfl) rfl) ?_
 refine rh_any1 13 (by kernel_rfl) ?_
 refine rc_op rfl rfl (ow_storeL rfl rfl (by kernel_rfl) hO21 2 rfl rfl rfl rfl rfl) ?_
 rintro _ w24 ⟨rfl, hO25, hs26⟩
 have hS27 : Own B w0 w24 ([some (lch A.W 97 [iv X.mem, iv X.pat, .slice none 0 0, .slice none 0 0, .slice dao X.deals.length dcap, nodeV A 0, nodeV A 1, nodeV A 2, .slice bao X.bag.length bcap])]) := by first | exact hO25.sub (.cons _ (.cons_cons _ (List.nil_sublist _))) | exact hO25.sub (.cons _ (.cons _ (.cons_cons _ (List.nil_sublist _)))) | exact hO25.sub (.cons _ (.cons _ (.cons _ (.cons_cons _ (List.nil_sublist _)))))
 refine ⟨hS27, ?_⟩
 refine rh_done (by kernel_rfl) ?_
 refine run_seq <| run_seq <| run_region <| rl_v rfl rfl rfl (ov_move rfl rfl) <| rl_v rfl rfl rfl (ov_nil rfl rfl) <| rl_v rfl rfl rfl (ov_fieldS rfl Try.underlying97 rfl (fo := 5) rfl (by kernel_rfl) rfl) ?_
 refine rl_v rfl rfl rfl (ov_loadN rfl Try.underlying95 rfl (by kernel_rfl) rfl ((hO25.rangeT 3 rfl 5 (cs := [nodeV A 0, nodeV A 1, nodeV A 2]) rfl))) ?_
 refine rl_v rfl rfl rfl (ov_move rfl rfl) <| rl_nil <| run_block <| run_once <| run_seq <| run_region <| rl_v rfl rfl rfl (ov_lss rfl rfl rfl) <| rl_nil <| run_seq <| run_cond_t rfl <| run_skip <| run_seq <| run_block <| run_seq <| run_region <| rl_v rfl rfl rfl (ov_move rfl rfl) <| rl_v rfl rfl rfl (ov_indexV rfl Try.underlying95 Try.underlying94 rfl (by kernel_rfl) rfl rfl ⟨by decide, by decide⟩ (v := nodeV A 0) rfl) ?_
 refine rl_v rfl rfl rfl (ov_assign rfl rfl) <| rl_v rfl rfl rfl (ov_assign rfl rfl) <| rl_nil <| run_region <| rl_v rfl rfl rfl (ov_move rfl rfl) <| rl_v rfl rfl rfl (ov_move rfl rfl) ?_
 refine rl_invoke (cFork 0) rfl rfl rfl rfl rfl (mFork 0 _ _) rfl (cfork_any A.C mb A.W b3 4 7 X.c.recs.length p0 q0 X.c L X.kn B _ w0 w24 hO25 hmp rfl rfl) (fun e28 w29 hp30 => ?_)
 obtain ⟨c2, mb2, L2, rfl, hm2, hO33⟩ := hp30
 refine ⟨_, rfl, ?_⟩
 refine rl_v rfl rfl rfl (ov_fieldS rfl Try.underlying97 rfl (fo := 5) rfl (by kernel_rfl) rfl) ?_
 refine rl_v rfl rfl rfl (ov_indexA1 rfl Try.underlying95 (by kernel_rfl) rfl rfl ⟨by omega, by omega⟩) ?_
 refine rl_ow rfl (ow_storeL rfl rfl (by kernel_rfl) hO33 4 rfl rfl rfl rfl rfl) ?_
 rintro _ w31 ⟨rfl, hO32, hs33⟩
 refine rl_nil <| run_inBlock <| run_region <| rl_v rfl rfl rfl (ov_add rfl rfl rfl (by omega)) ?_
 refine rl_v rfl rfl rfl (ov_move rfl rfl) <| rl_nil <| run_again <| run_seq <| run_region <| rl_v rfl rfl rfl (ov_lss rfl rfl rfl) <| rl_nil <| run_seq <| run_cond_t rfl <| run_skip <| run_seq <| run_block <| run_seq <| run_region <| rl_v rfl rfl rfl (ov_move rfl rfl) <| rl_v rfl rfl rfl (ov_indexV rfl Try.underlying95 Try.underlying94 rfl (by kernel_rfl) rfl rfl ⟨by decide, by decide⟩ (v := nodeV A 1) rfl) ?_
 refine rl_v rfl rfl rfl (ov_assign rfl rfl) <| rl_v rfl rfl rfl (ov_assign rfl rfl) <| rl_nil <| run_region <| rl_v rfl rfl rfl (ov_move rfl rfl) <| rl_v rfl rfl rfl (ov_move rfl rfl) ?_
 refine rl_invoke (cFork 1) rfl rfl rfl rfl rfl (mFork 1 _ _) rfl (sfork_any A.S1 A.W b3 7 X.s1.recs.length p1 X.f1.length y1 q1 u1 1 X.s1 B _ w0 w31 hO32 rfl) (fun e34 w35 hp36 => ?_)
 obtain ⟨s1, rfl, hO34⟩ := hp36
 refine ⟨_, rfl, ?_⟩
 refine rl_v rfl rfl rfl (ov_fieldS rfl Try.underlying97 rfl (fo := 5) rfl (by kernel_rfl) rfl) ?_
 refine rl_v rfl rfl rfl (ov_indexA1 rfl Try.underlying95 (by kernel_rfl) rfl rfl ⟨by omega, by omega⟩) ?_
 refine rl_ow rfl (ow_storeL rfl rfl (by kernel_rfl) hO34 5 rfl rfl rfl rfl rfl) ?_
 rintro _ w37 ⟨rfl, hO38, hs39⟩
 refine rl_nil <| run_inBlock <| run_region <| rl_v rfl rfl rfl (ov_add rfl rfl rfl (by omega)) ?_
 refine rl_v rfl rfl rfl (ov_move rfl rfl) <| rl_nil <| run_again <| run_seq <| run_region <| rl_v rfl rfl rfl (ov_lss rfl rfl rfl) <| rl_nil <| run_seq <| run_cond_t rfl <| run_skip <| run_seq <| run_block <| run_seq <| run_region <| rl_v rfl rfl rfl (ov_move rfl rfl) <| rl_v rfl rfl rfl (ov_indexV rfl Try.underlying95 Try.underlying94 rfl (by kernel_rfl) rfl rfl ⟨by decide, by decide⟩ (v := nodeV A 2) rfl) ?_
 refine rl_v rfl rfl rfl (ov_assign rfl rfl) <| rl_v rfl rfl rfl (ov_assign rfl rfl) <| rl_nil <| run_region <| rl_v rfl rfl rfl (ov_move rfl rfl) <| rl_v rfl rfl rfl (ov_move rfl rfl) ?_
 refine rl_invoke (cFork 2) rfl rfl rfl rfl rfl (mFork 2 _ _) rfl (sfork_any A.S2 A.W b3 9 X.s2.recs.length p2 X.f2.length y2 q2 u2 2 X.s2 B _ w0 w37 hO38 rfl) (fun e40 w41 hp42 => ?_)
 obtain ⟨s2, rfl, hO35⟩ := hp42
 refine ⟨_, rfl, ?_⟩
 refine rl_v rfl rfl rfl (ov_fieldS rfl Try.underlying97 rfl (fo := 5) rfl (by kernel_rfl) rfl) ?_
 refine rl_v rfl rfl rfl (ov_indexA1 rfl Try.underlying95 (by kernel_rfl) rfl rfl ⟨by omega, by omega⟩) ?_
 refine rl_ow rfl (ow_storeL rfl rfl (by kernel_rfl) hO35 6 rfl rfl rfl rfl rfl) ?_
 rintro _ w43 ⟨rfl, hO44, hs45⟩
 refine rl_nil <| run_inBlock <| run_region <| rl_v rfl rfl rfl (ov_add rfl rfl rfl (by omega)) ?_
 refine rl_v rfl rfl rfl (ov_move rfl rfl) <| rl_nil <| run_again <| run_seq <| run_region <| rl_v rfl rfl rfl (ov_lss rfl rfl rfl) <| rl_nil <| run_seq <| run_cond_f rfl ?_
 have hN : ∀ x ∈ N, x ∈ c15 :: N := fun x hx => List.mem_cons_of_mem _ hx
 refine run_exit rfl <| run_seq <| run_region <| rl_v rfl rfl rfl (ov_assign rfl rfl) <| rl_nil <| run_ret Try.func46 (res1 Try.results46 rfl) ?_
 exact ⟨⟨b3, c2, s1, s2⟩, rfl, ⟨.slice dao X.deals.length dcap, .slice bao X.bag.length bcap, .slice q0 X.c.recs.length p0, .slice q1 X.s1.recs.length p1, .slice q2 X.s2.recs.length p2, .slice u1 X.f1.length y1, .slice u2 X.f2.length y2, L, mb, cb⟩, ⟨.slice ao15 X.deals.length cp15, .slice ao20 X.bag.length cp20, .slice q0 X.c.recs.length p0, .slice q1 X.s1.recs.length p1, .slice q2 X.s2.recs.length p2, .slice u1 X.f1.length y1, .slice u2 X.f2.length y2, L2, mb2, c20⟩, c15 :: N, hO44.perm (permW _ _ _ _ _ _ _ _ N R), hK0.mono hN, ⟨.of_row hR15 (List.mem_cons_self ..), hR20, hrc.mono hN, hr1.mono hN, hr2.mono hN, hv1.mono hN, hv2.mono hN, hm2⟩⟩
end Go.Proofs.Yteagflekbbchhaa
