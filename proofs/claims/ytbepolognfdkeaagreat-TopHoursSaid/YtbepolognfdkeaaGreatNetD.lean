import Derived.Test.YtbepolognfdkeaaGreatBits
import Derived.Test.YtbepolognfdkeaaGreatCirc
set_option maxRecDepth 100000
namespace Go.Proofs.YtbepolognfdkeaaGreat
open Go.RowKit Go.Proofs
theorem heights_any (b n c M ca : Nat) (ao aa : Option Addr) (fr to lf gn : Int → Int) (w : World) (hn : 1 ≤ n) (hn2 : n ≤ 32) (hM : M ≤ 2048)
  (hL : LAt w.heap.size w b [.slice ao n c, .slice aa M ca]) (hA : SAt w.heap.size w aa 4 M (arcL fr to lf gn))
  (hr : ∀ e : Int, 0 ≤ e → e < M → (0 ≤ fr e ∧ fr e < n) ∧ (0 ≤ to e ∧ to e < n) ∧ -1 ≤ gn e ∧ gn e ≤ 1) :
  Calls Tryz.prog 126 #[.pointer (some ⟨b, 0, none⟩)] w fun e w' =>
   ∃ (bh bl : Nat) (h l : Int → Int) (on : Int), e = .returned (.tuple #[.slice (some ⟨bh, 0, none⟩) n n, .slice (some ⟨bl, 0, none⟩) n n, .int .i64 on]) ∧
    Own w.heap.size w w' [some (vch bh 2 n (fun v => .int .i64 (h v))), some (vch bl 3 n (fun v => .int .i64 (l v)))] ∧ (∀ v, 0 ≤ h v ∧ h v ≤ 100000) ∧
    (on < 0 ∧ (∀ e : Int, 0 ≤ e → e < M → 0 < lf e → h (fr e) + gn e ≤ h (to e)) ∧ (∃ τ, Back n M fr to gn lf h l τ ∧ ∀ v, τ v ≤ 0 → h v = 0) ∨ 0 ≤ on ∧ on < n ∧ ∃ τ, Back n M fr to gn lf h l τ ∧ n * M + 1 ≤ τ on) := by
 have hc := hL.open
 have hback : ∀ R h l on τ, HI n M fr to gn lf R M h l on τ → Back n M fr to gn lf h l τ := fun R h l on τ H => ⟨H.A, fun e h0 h1 => (hr e h0 h1).1⟩
 obtain ⟨gb, go, hga, hrow⟩ := hA.open (by omega)
 refine calls_of_run (F := [(0, _)]) Tryz.func126 rfl Tryz.ntmps126 rfl rfl ?_
 have hO0 := Own.init w
 refine run_seq <| run_region <| rl_v rfl rfl rfl (ov_assign rfl rfl) <| rl_v rfl rfl rfl (ov_assign rfl rfl) <| rl_v rfl rfl rfl (ov_assign rfl rfl) <| rl_nil <| run_scope <| run_seq <| run_region <| rl_v rfl rfl rfl (ov_move rfl rfl) <| rl_v rfl rfl rfl (ov_nil rfl rfl) <| rl_v rfl rfl rfl (ov_fieldS rfl Tryz.underlying178 rfl (fo := 0) rfl (by kernel_rfl) rfl) ?_
 refine rl_v rfl rfl rfl (ov_load rfl Tryz.underlying55 rfl rfl (by exact hc _ hO0.below rfl)) ?_
 refine rl_v rfl rfl rfl (ov_len rfl Tryz.underlying55 rfl) <| rl_v rfl rfl rfl (ov_assign rfl rfl) <| rl_nil <| run_seq <| Run.keep [0, 5] (F' := [(0, _), (5, _)]) rfl <| run_join2 (fun (bh : Nat) (bl : Nat) => [(2, .slice (some ⟨bh, 0, none⟩) n n), (3, .slice (some ⟨bl, 0, none⟩) n n)]) [0, 5] (fun (bh : Nat) (bl : Nat) (w1 : World) => Own w.heap.size w w1 [some (vch bh 2 n (fun _ => .int .i64 0)), some (vch bl 3 n (fun _ => .int .i64 (-1)))]) (fun hk2 => ?_) ?_
 ·refine run_held (fun w' => Own w.heap.size w w' ([])) mixed ?_
  have hO4 := hO0.drew
  generalize World.drew w = w3 at hO4 ⊢
  have hS5 : Own w.heap.size w w3 ([]) := by exact hO4.none_
  refine rh_v 0 rfl (by kernel_rfl) rfl rfl rfl hS5 (fun _ hS => ov_move rfl rfl) ?_
  refine rh_v 3 rfl (by kernel_rfl) rfl rfl rfl hS5 (fun _ hS => ov_move rfl rfl) ?_
  refine rh_any2 1 2 (by kernel_rfl) ?_ ?_
  ·refine rc_op rfl rfl (ow_make (n) rfl rfl rfl Tryz.underlying59 info_2 rfl hO4 rfl rfl (by rfl) (by rfl) ⟨by omega, by omega⟩) ?_
   rintro _ w6 ⟨bh, rfl, hO7, hs8⟩
   have hS9 : Own w.heap.size w w6 ([]) := by exact hO7.none_
   refine ⟨hS9, ?_⟩
   refine rh_any1 2 (by kernel_rfl) ?_
   refine rc_op rfl rfl (ow_one rfl rfl rfl Tryz.underlying36 info_3 rfl hO7 rfl rfl) ?_
   rintro _ w10 ⟨b1, rfl, hO11, hs12⟩
   have hS13 : Own w.heap.size w w10 ([]) := by exact hO11.none_
   refine ⟨hS13, ?_⟩
   refine rh_any1 4 (by kernel_rfl) ?_
   refine rc_op rfl rfl (ow_call2 callable_62 rfl rfl rfl rfl rfl (repeatInt_any _ _ n (-1) _ hn (by omega) (hO11.readsI 0 rfl)) (by intro e w' hp; obtain ⟨bl, rfl, hOc⟩ := hp; exact ⟨_, rfl⟩)) ?_
   rintro _ w16 ⟨_, v14, he17, rfl, hp15⟩
   obtain ⟨bl, rfl, hOc⟩ := hp15
   injection he17 with he17; subst he17
   have hO18 := hO11.join hOc
   have hS19 : Own w.heap.size w w16 ([]) := by exact hO18.none_
   refine ⟨hS19, ?_⟩
   refine rh_v 5 rfl (by kernel_rfl) rfl rfl rfl hS19 (fun _ hS => ov_assign rfl rfl) ?_
   refine rh_v 6 rfl (by kernel_rfl) rfl rfl rfl hS19 (fun _ hS => ov_assign rfl rfl) ?_
   refine rh_done (by kernel_rfl) ?_
   refine Run.use (hk2 (bh) (bl) _ ?_) (And.intro rfl (And.intro rfl (And.intro rfl (And.intro rfl trivial))))
   exact (hO18.sub (.cons_cons _ (.cons _ (.refl _)))).swap
  ·refine rc_op rfl rfl (ow_one rfl rfl rfl Tryz.underlying36 info_3 rfl hO4 rfl rfl) ?_
   rintro _ w20 ⟨b1, rfl, hO21, hs22⟩
   have hS23 : Own w.heap.size w w20 ([]) := by exact hO21.none_
   refine ⟨hS23, ?_⟩
   refine rh_any2 1 4 (by kernel_rfl) ?_ ?_
   ·refine rc_op rfl rfl (ow_make (n) rfl rfl rfl Tryz.underlying59 info_2 rfl hO21 rfl rfl (by rfl) (by rfl) ⟨by omega, by omega⟩) ?_
    rintro _ w24 ⟨bh, rfl, hO25, hs26⟩
    have hS27 : Own w.heap.size w w24 ([]) := by exact hO25.none_
    refine ⟨hS27, ?_⟩
    refine rh_any1 4 (by kernel_rfl) ?_
    refine rc_op rfl rfl (ow_call2 callable_62 rfl rfl rfl rfl rfl (repeatInt_any _ _ n (-1) _ hn (by omega) (hO25.readsI 1 rfl)) (by intro e w' hp; obtain ⟨bl, rfl, hOc⟩ := hp; exact ⟨_, rfl⟩)) ?_
    rintro _ w30 ⟨_, v28, he31, rfl, hp29⟩
    obtain ⟨bl, rfl, hOc⟩ := hp29
    injection he31 with he31; subst he31
    have hO32 := hO25.join hOc
    have hS33 : Own w.heap.size w w30 ([]) := by exact hO32.none_
    refine ⟨hS33, ?_⟩
    refine rh_v 5 rfl (by kernel_rfl) rfl rfl rfl hS33 (fun _ hS => ov_assign rfl rfl) ?_
    refine rh_v 6 rfl (by kernel_rfl) rfl rfl rfl hS33 (fun _ hS => ov_assign rfl rfl) ?_
    refine rh_done (by kernel_rfl) ?_
    refine Run.use (hk2 (bh) (bl) _ ?_) (And.intro rfl (And.intro rfl (And.intro rfl (And.intro rfl trivial))))
    exact (hO32.sub (.cons_cons _ (.cons_cons _ (.cons _ (.refl _))))).swap
   ·refine rc_op rfl rfl (ow_call2 callable_62 rfl rfl rfl rfl rfl (repeatInt_any _ _ n (-1) _ hn (by omega) (hO21.readsI 0 rfl)) (by intro e w' hp; obtain ⟨bl, rfl, hOc⟩ := hp; exact ⟨_, rfl⟩)) ?_
    rintro _ w36 ⟨_, v34, he37, rfl, hp35⟩
    obtain ⟨bl, rfl, hOc⟩ := hp35
    injection he37 with he37; subst he37
    have hO38 := hO21.join hOc
    have hS39 : Own w.heap.size w w36 ([]) := by exact hO38.none_
    refine ⟨hS39, ?_⟩
    refine rh_any1 1 (by kernel_rfl) ?_
    refine rc_op rfl rfl (ow_make (n) rfl rfl rfl Tryz.underlying59 info_2 rfl hO38 rfl rfl (by rfl) (by rfl) ⟨by omega, by omega⟩) ?_
    rintro _ w40 ⟨bh, rfl, hO41, hs42⟩
    have hS43 : Own w.heap.size w w40 ([]) := by exact hO41.none_
    refine ⟨hS43, ?_⟩
    refine rh_v 5 rfl (by kernel_rfl) rfl rfl rfl hS43 (fun _ hS => ov_assign rfl rfl) ?_
    refine rh_v 6 rfl (by kernel_rfl) rfl rfl rfl hS43 (fun _ hS => ov_assign rfl rfl) ?_
    refine rh_done (by kernel_rfl) ?_
    refine Run.use (hk2 (bh) (bl) _ ?_) (And.intro rfl (And.intro rfl (And.intro rfl (And.intro rfl trivial))))
    exact hO41.sub (.cons_cons _ (.cons_cons _ (.cons _ (.refl _))))
 ·intro bh bl w1 hJw1
  have hO := hJw1
  show Run _ _ _ _ [(2, _), (3, _), (0, _), (5, _)] _ _
  refine run_seq <| run_region <| rl_v rfl rfl rfl (ov_assign rfl rfl) <| rl_nil <| run_seq <| run_label <| run_seq <| run_seq <| run_region <| rl_v rfl rfl rfl (ov_move rfl rfl) <| rl_v rfl rfl rfl (ov_add rfl rfl rfl (by omega)) ?_
  refine rl_v rfl rfl rfl (ov_move rfl rfl) <| rl_nil <| run_block <| Run.keep [0, 2, 3, 4, 19, 20] (F' := [(0, _), (2, _), (3, _), (4, _), (19, _), (20, _)]) rfl <| run_loop5 (fun (k : Int) (h : Int → Int) (l : Int → Int) (on : Int) (tau : Int → Int) => [(20, .int .i64 k), (4, .int .i64 on)]) [0, 2, 3, 19] (fun (k : Int) (h : Int → Int) (l : Int → Int) (on : Int) (tau : Int → Int) (w44 : World) => 0 ≤ k ∧ k ≤ n + 1 ∧ (k = 0 ∧ HI n M fr to gn lf 0 0 h l (-1) tau ∨ 1 ≤ k ∧ 0 ≤ on ∧ HI n M fr to gn lf (k * M - M) M h l on tau) ∧ Own w.heap.size w w44 [some (vch bh 2 n (fun v => .int .i64 (h v))), some (vch bl 3 n (fun v => .int .i64 (l v)))]) (fun (k : Int) (h : Int → Int) (l : Int → Int) (on : Int) (tau : Int → Int) => ((n : Int) + 1 - k).toNat) (0) (fun _ => 0) (fun _ => -1) (-1) (fun _ => 0) ?_ (And.intro (by exact slot_int rfl (by first | omega)) (And.intro (by exact slot_int rfl (by first | omega)) (And.intro rfl (And.intro rfl (And.intro rfl (And.intro rfl trivial)))))) ?_
  ·exact ⟨by omega, by omega, .inl ⟨rfl, HI.init _⟩, hO⟩
  intro k h l on tau w44 hIw44 ih45
  obtain ⟨hk0, hk1, hI, hO⟩ := hIw44
  show Run _ _ _ _ [(20, _), (4, _), (0, _), (2, _), (3, _), (19, _)] _ _
  have hMi : (M : Int) ≤ 2048 := by omega
  have hkM := mulb hk0 (show k ≤ 33 by omega) (show (0 : Int) ≤ M by omega) hMi
  refine run_seq <| run_region <| rl_v rfl rfl rfl (ov_lss rfl rfl rfl) <| rl_nil <| run_seq ?_
  first | refine run_cond_dec rfl (fun h1 => ?_) (fun h1 => ?_) | refine run_cond rfl (fun h1 => ?_) (fun h1 => ?_)
  ·have hstart : HI n M fr to gn lf (k * M) 0 h l (-1) tau := by
    rcases hI with ⟨e1, e2⟩ | ⟨_, _, e2⟩
    ·rw [e1, Int.zero_mul]; exact e2
    ·have := e2.round (by omega)
     rwa [show k * (M : Int) - M + M = k * M by omega] at this
   refine run_skip <| run_seq <| run_block <| run_seq <| run_region <| rl_v rfl rfl rfl (ov_assign rfl rfl) <| rl_nil <| run_seq <| run_seq <| run_region <| rl_v rfl rfl rfl (ov_move rfl rfl) <| rl_v rfl rfl rfl (ov_nil rfl rfl) <| rl_v rfl rfl rfl (ov_fieldS rfl Tryz.underlying178 rfl (fo := 1) rfl (by kernel_rfl) rfl) ?_
   refine rl_v rfl rfl rfl (ov_load rfl Tryz.underlying176 rfl rfl (by exact hc _ hO.below rfl)) ?_
   refine rl_v rfl rfl rfl (ov_len rfl Tryz.underlying176 rfl) <| rl_v rfl rfl rfl (ov_move rfl rfl) <| rl_nil <| run_block <| Run.keep [0, 2, 3, 4, 19, 20, 25, 26, 27] (F' := [(0, _), (2, _), (3, _), (4, _), (19, _), (20, _), (25, _), (26, _), (27, _)]) rfl <| run_loop5 (fun (e : Int) (h2 : Int → Int) (l2 : Int → Int) (on2 : Int) (tau2 : Int → Int) => [(27, .int .i64 e), (4, .int .i64 on2)]) [0, 2, 3, 19, 20, 25, 26] (fun (e : Int) (h2 : Int → Int) (l2 : Int → Int) (on2 : Int) (tau2 : Int → Int) (w46 : World) => 0 ≤ e ∧ e ≤ M ∧ HI n M fr to gn lf (k * M) e h2 l2 on2 tau2 ∧ Own w.heap.size w w46 [some (vch bh 2 n (fun v => .int .i64 (h2 v))), some (vch bl 3 n (fun v => .int .i64 (l2 v)))]) (fun (e : Int) (h2 : Int → Int) (l2 : Int → Int) (on2 : Int) (tau2 : Int → Int) => ((M : Int) - e).toNat) (0) (h) (l) (-1) (tau) ?_ (And.intro (by exact slot_int rfl (by first | omega)) (And.intro (by exact slot_int rfl (by first | omega)) (And.intro rfl (And.intro rfl (And.intro rfl (And.intro rfl (And.intro rfl (And.intro rfl (And.intro rfl trivial))))))))) ?_
   ·exact ⟨by omega, by omega, hstart, hO⟩
   intro e h2 l2 on2 tau2 w46 hIw46 ih47
   obtain ⟨he0, he1, hI2, hO2⟩ := hIw46
   show Run _ _ _ _ [(27, _), (4, _), (0, _), (2, _), (3, _), (19, _), (20, _), (25, _), (26, _)] _ _
   refine run_seq <| run_region <| rl_v rfl rfl rfl (ov_lss rfl rfl rfl) <| rl_nil <| run_seq ?_
   first | refine run_cond_dec rfl (fun h3 => ?_) (fun h3 => ?_) | refine run_cond rfl (fun h3 => ?_) (fun h3 => ?_)
   ·obtain ⟨⟨hf0, hf1⟩, ⟨ht0, ht1⟩, hg0, hg1⟩ := hr e he0 h3
    have hb1 := hI2.hb (fr e)
    have hb2 := hI2.hb (to e)
    refine run_skip <| run_seq <| run_block <| run_seq <| run_region <| rl_v rfl rfl rfl (ov_move rfl rfl) <| rl_v rfl rfl rfl (ov_index rfl Tryz.underlying176 (by kernel_rfl) (s := 4) rfl rfl ⟨by omega, by omega⟩ (by exact hga (by omega))) ?_
    refine rl_v rfl rfl rfl (ov_loadE rfl Tryz.underlying180 rfl (by kernel_rfl) rfl ⟨by omega, by omega⟩ rfl (hrow _ hO2.below)) ?_
    refine rl_ow rfl (ow_alloc _ rfl rfl rfl zero_180 rfl hO2) ?_
    rintro _ w48 ⟨ba, rfl, hO49, hs50⟩
    refine rl_v rfl rfl rfl (ov_assign rfl rfl) <| rl_ow rfl (ow_storeW rfl rfl (by kernel_rfl) hO49 0 rfl rfl (by rfl) rfl (by rfl)) ?_
    rintro _ w51 ⟨rfl, hO52, hs53⟩
    refine rl_nil <| run_seq ?_
    refine run_quiet_join mixed (by kernel_rfl) 50 (.bool (decide (0 < lf e ∧ h2 (to e) < h2 (fr e) + gn e))) [0, 2, 3, 4, 6, 7, 19, 20, 25, 26, 27] (fun hk54 => ?_) (fun n55 => ?_)
    ·refine rq_v rfl rfl rfl (fun _ => ov_fieldS rfl Tryz.underlying180 rfl (fo := 2) rfl (by kernel_rfl) rfl) ?_
     refine rq_v rfl rfl rfl (fun _ => ov_load rfl Tryz.underlying2 rfl rfl (by show World.cell? w51 _ = _; first | exact hc _ hO52.below rfl | exact hrow _ hO52.below _ (by omega) (by omega) _ (by omega) | exact hO52.cellI 0 rfl _ (by omega) (by omega) | exact hO52.cellL 0 rfl rfl | exact hO52.cellI 1 rfl _ (by omega) (by omega) | exact hO52.cellL 1 rfl rfl | exact hO52.cellI 2 rfl _ (by omega) (by omega) | exact hO52.cellL 2 rfl rfl | exact hO52.cellI 3 rfl _ (by omega) (by omega) | exact hO52.cellL 3 rfl rfl | exact hO52.cellI 4 rfl _ (by omega) (by omega) | exact hO52.cellL 4 rfl rfl | exact hO52.cellI 5 rfl _ (by omega) (by omega) | exact hO52.cellL 5 rfl rfl)) ?_
     refine rq_v rfl rfl rfl (fun _ => ov_gtr rfl rfl rfl) ?_
     refine rq_v rfl rfl rfl (fun _ => ov_move rfl rfl) ?_
     first | refine rq_split_dec 35 rfl (fun hg56 => ?_) (fun hg56 => ?_) | refine rq_split 35 rfl (fun hg56 => ?_) (fun hg56 => ?_)
     ·refine rq_gv rfl rfl rfl rfl rfl (fun _ => ov_move rfl rfl) ?_
      refine rq_gv rfl rfl rfl rfl rfl (fun _ => ov_fieldS rfl Tryz.underlying180 rfl (fo := 0) rfl (by kernel_rfl) rfl) ?_
      refine rq_gv rfl rfl rfl rfl rfl (fun _ => ov_load rfl Tryz.underlying3 rfl rfl (by show World.cell? w51 _ = _; first | exact hc _ hO52.below rfl | exact hrow _ hO52.below _ (by omega) (by omega) _ (by omega) | exact hO52.cellI 0 rfl _ (by omega) (by omega) | exact hO52.cellL 0 rfl rfl | exact hO52.cellI 1 rfl _ (by omega) (by omega) | exact hO52.cellL 1 rfl rfl | exact hO52.cellI 2 rfl _ (by omega) (by omega) | exact hO52.cellL 2 rfl rfl | exact hO52.cellI 3 rfl _ (by omega) (by omega) | exact hO52.cellL 3 rfl rfl | exact hO52.cellI 4 rfl _ (by omega) (by omega) | exact hO52.cellL 4 rfl rfl | exact hO52.cellI 5 rfl _ (by omega) (by omega) | exact hO52.cellL 5 rfl rfl)) ?_
      refine rq_gv rfl rfl rfl rfl rfl (fun _ => ov_index1 rfl Tryz.underlying59 (by kernel_rfl) rfl rfl ⟨by omega, by omega⟩ (by rfl)) ?_
      refine rq_gv rfl rfl rfl rfl rfl (fun _ => ov_load rfl Tryz.underlying2 rfl rfl (by show World.cell? w51 _ = _; first | exact hc _ hO52.below rfl | exact hrow _ hO52.below _ (by omega) (by omega) _ (by omega) | exact hO52.cellI 0 rfl _ (by omega) (by omega) | exact hO52.cellL 0 rfl rfl | exact hO52.cellI 1 rfl _ (by omega) (by omega) | exact hO52.cellL 1 rfl rfl | exact hO52.cellI 2 rfl _ (by omega) (by omega) | exact hO52.cellL 2 rfl rfl | exact hO52.cellI 3 rfl _ (by omega) (by omega) | exact hO52.cellL 3 rfl rfl | exact hO52.cellI 4 rfl _ (by omega) (by omega) | exact hO52.cellL 4 rfl rfl | exact hO52.cellI 5 rfl _ (by omega) (by omega) | exact hO52.cellL 5 rfl rfl)) ?_
      refine rq_gv rfl rfl rfl rfl rfl (fun _ => ov_fieldS rfl Tryz.underlying180 rfl (fo := 3) rfl (by kernel_rfl) rfl) ?_
      refine rq_gv rfl rfl rfl rfl rfl (fun _ => ov_load rfl Tryz.underlying2 rfl rfl (by show World.cell? w51 _ = _; first | exact hc _ hO52.below rfl | exact hrow _ hO52.below _ (by omega) (by omega) _ (by omega) | exact hO52.cellI 0 rfl _ (by omega) (by omega) | exact hO52.cellL 0 rfl rfl | exact hO52.cellI 1 rfl _ (by omega) (by omega) | exact hO52.cellL 1 rfl rfl | exact hO52.cellI 2 rfl _ (by omega) (by omega) | exact hO52.cellL 2 rfl rfl | exact hO52.cellI 3 rfl _ (by omega) (by omega) | exact hO52.cellL 3 rfl rfl | exact hO52.cellI 4 rfl _ (by omega) (by omega) | exact hO52.cellL 4 rfl rfl | exact hO52.cellI 5 rfl _ (by omega) (by omega) | exact hO52.cellL 5 rfl rfl)) ?_
      refine rq_gv rfl rfl rfl rfl rfl (fun _ => ov_add rfl rfl rfl (by omega)) ?_
      refine rq_gv rfl rfl rfl rfl rfl (fun _ => ov_move rfl rfl) ?_
      refine rq_gv rfl rfl rfl rfl rfl (fun _ => ov_fieldS rfl Tryz.underlying180 rfl (fo := 1) rfl (by kernel_rfl) rfl) ?_
      refine rq_gv rfl rfl rfl rfl rfl (fun _ => ov_load rfl Tryz.underlying3 rfl rfl (by show World.cell? w51 _ = _; first | exact hc _ hO52.below rfl | exact hrow _ hO52.below _ (by omega) (by omega) _ (by omega) | exact hO52.cellI 0 rfl _ (by omega) (by omega) | exact hO52.cellL 0 rfl rfl | exact hO52.cellI 1 rfl _ (by omega) (by omega) | exact hO52.cellL 1 rfl rfl | exact hO52.cellI 2 rfl _ (by omega) (by omega) | exact hO52.cellL 2 rfl rfl | exact hO52.cellI 3 rfl _ (by omega) (by omega) | exact hO52.cellL 3 rfl rfl | exact hO52.cellI 4 rfl _ (by omega) (by omega) | exact hO52.cellL 4 rfl rfl | exact hO52.cellI 5 rfl _ (by omega) (by omega) | exact hO52.cellL 5 rfl rfl)) ?_
      refine rq_gv rfl rfl rfl rfl rfl (fun _ => ov_index1 rfl Tryz.underlying59 (by kernel_rfl) rfl rfl ⟨by omega, by omega⟩ (by rfl)) ?_
      refine rq_gv rfl rfl rfl rfl rfl (fun _ => ov_load rfl Tryz.underlying2 rfl rfl (by show World.cell? w51 _ = _; first | exact hc _ hO52.below rfl | exact hrow _ hO52.below _ (by omega) (by omega) _ (by omega) | exact hO52.cellI 0 rfl _ (by omega) (by omega) | exact hO52.cellL 0 rfl rfl | exact hO52.cellI 1 rfl _ (by omega) (by omega) | exact hO52.cellL 1 rfl rfl | exact hO52.cellI 2 rfl _ (by omega) (by omega) | exact hO52.cellL 2 rfl rfl | exact hO52.cellI 3 rfl _ (by omega) (by omega) | exact hO52.cellL 3 rfl rfl | exact hO52.cellI 4 rfl _ (by omega) (by omega) | exact hO52.cellL 4 rfl rfl | exact hO52.cellI 5 rfl _ (by omega) (by omega) | exact hO52.cellL 5 rfl rfl)) ?_
      refine rq_gv rfl rfl rfl rfl rfl (fun _ => ov_gtr rfl rfl rfl) ?_
      refine rq_v rfl rfl rfl (fun _ => ov_pick_t rfl rfl rfl) ?_
      refine rq_nil (fun n => hk54 n _ (jbd rfl (by omega)) (And.intro rfl (And.intro rfl (And.intro rfl (And.intro rfl (And.intro rfl (And.intro rfl (And.intro rfl (And.intro rfl (And.intro rfl (And.intro rfl (And.intro rfl trivial))))))))))))
     ·refine rq_gskip rfl rfl rfl rfl rfl rfl <| rq_gskip rfl rfl rfl rfl rfl rfl <| rq_gskip rfl rfl rfl rfl rfl rfl <| rq_gskip rfl rfl rfl rfl rfl rfl <| rq_gskip rfl rfl rfl rfl rfl rfl <| rq_gskip rfl rfl rfl rfl rfl rfl <| rq_gskip rfl rfl rfl rfl rfl rfl <| rq_gskip rfl rfl rfl rfl rfl rfl <| rq_gskip rfl rfl rfl rfl rfl rfl <| rq_gskip rfl rfl rfl rfl rfl rfl <| rq_gskip rfl rfl rfl rfl rfl rfl <| rq_gskip rfl rfl rfl rfl rfl rfl <| rq_gskip rfl rfl rfl rfl rfl rfl <| rq_gskip rfl rfl rfl rfl rfl rfl <| rq_v rfl rfl rfl (fun _ => ov_pick_f rfl rfl rfl) ?_
      refine rq_nil (fun n => hk54 n _ (jbf rfl (by omega)) (And.intro rfl (And.intro rfl (And.intro rfl (And.intro rfl (And.intro rfl (And.intro rfl (And.intro rfl (And.intro rfl (And.intro rfl (And.intro rfl (And.intro rfl trivial))))))))))))
    ·have hO58 := hO52.drewN n55
     generalize World.drewN w51 n55 = w57 at hO58 ⊢
     show Run _ _ _ _ [(50, _), (0, _), (2, _), (3, _), (4, _), (6, _), (7, _), (19, _), (20, _), (25, _), (26, _), (27, _)] _ _
     first | refine run_cond_dec rfl (fun h4 => ?_) (fun h4 => ?_) | refine run_cond rfl (fun h4 => ?_) (fun h4 => ?_)
     ·refine run_held (fun w' => Own w.heap.size w w' ([some (lch ba 180 (arcL fr to lf gn e))])) mixed ?_
      have hO60 := hO58.drew
      generalize World.drew w57 = w59 at hO60 ⊢
      have hS61 : Own w.heap.size w w59 ([some (lch ba 180 (arcL fr to lf gn e))]) := by exact hO60.sub (.cons_cons _ (List.nil_sublist _))
      refine rh_v 0 rfl (by kernel_rfl) rfl rfl rfl hS61 (fun _ hS => ov_move rfl rfl) ?_
      refine rh_v 1 rfl (by kernel_rfl) rfl rfl rfl hS61 (fun _ hS => ov_fieldS rfl Tryz.underlying180 rfl (fo := 1) rfl (by kernel_rfl) rfl) ?_
      refine rh_v 2 rfl (by kernel_rfl) rfl rfl rfl hS61 (fun _ hS => ov_load rfl Tryz.underlying3 rfl rfl (by exact hS.cellL 0 rfl rfl)) ?_
      refine rh_v 3 rfl (by kernel_rfl) rfl rfl rfl hS61 (fun _ hS => ov_move rfl rfl) ?_
      refine rh_v 4 rfl (by kernel_rfl) rfl rfl rfl hS61 (fun _ hS => ov_fieldS rfl Tryz.underlying180 rfl (fo := 1) rfl (by kernel_rfl) rfl) ?_
      refine rh_v 5 rfl (by kernel_rfl) rfl rfl rfl hS61 (fun _ hS => ov_load rfl Tryz.underlying3 rfl rfl (by exact hS.cellL 0 rfl rfl)) ?_
      refine rh_v 6 rfl (by kernel_rfl) rfl rfl rfl hS61 (fun _ hS => ov_move rfl rfl) ?_
      refine rh_v 7 rfl (by kernel_rfl) rfl rfl rfl hS61 (fun _ hS => ov_fieldS rfl Tryz.underlying180 rfl (fo := 0) rfl (by kernel_rfl) rfl) ?_
      refine rh_v 8 rfl (by kernel_rfl) rfl rfl rfl hS61 (fun _ hS => ov_load rfl Tryz.underlying3 rfl rfl (by exact hS.cellL 0 rfl rfl)) ?_
      refine rh_v 9 rfl (by kernel_rfl) rfl rfl rfl hS61 (fun _ hS => ov_index1 rfl Tryz.underlying59 (by kernel_rfl) rfl rfl ⟨by omega, by omega⟩ (by rfl)) ?_
      refine rh_v 11 rfl (by kernel_rfl) rfl rfl rfl hS61 (fun _ hS => ov_fieldS rfl Tryz.underlying180 rfl (fo := 3) rfl (by kernel_rfl) rfl) ?_
      refine rh_v 12 rfl (by kernel_rfl) rfl rfl rfl hS61 (fun _ hS => ov_load rfl Tryz.underlying2 rfl rfl (by exact hS.cellL 0 rfl rfl)) ?_
      refine rh_v 14 rfl (by kernel_rfl) rfl rfl rfl hS61 (fun _ hS => ov_move rfl rfl) ?_
      refine rh_v 15 rfl (by kernel_rfl) rfl rfl rfl hS61 (fun _ hS => ov_fieldS rfl Tryz.underlying180 rfl (fo := 1) rfl (by kernel_rfl) rfl) ?_
      refine rh_v 16 rfl (by kernel_rfl) rfl rfl rfl hS61 (fun _ hS => ov_load rfl Tryz.underlying3 rfl rfl (by exact hS.cellL 0 rfl rfl)) ?_
      refine rh_any1 10 (by kernel_rfl) ?_
      refine rc_op rfl rfl (ow_v rfl rfl (ov_load rfl Tryz.underlying2 rfl rfl (by exact hO60.cellI 1 rfl _ (by omega) (by omega)))) ?_
      rintro _ _ ⟨rfl, hw62⟩
      replace hw62 := hw62.symm; subst hw62
      refine ⟨hS61, ?_⟩
      refine rh_v 13 rfl (by kernel_rfl) rfl rfl rfl hS61 (fun _ hS => ov_add rfl rfl rfl (by omega)) ?_
      refine rh_v 17 rfl (by kernel_rfl) rfl rfl rfl hS61 (fun _ hS => ov_index1 rfl Tryz.underlying59 (by kernel_rfl) rfl rfl ⟨by omega, by omega⟩ (by rfl)) ?_
      refine rh_any1 18 (by kernel_rfl) ?_
      refine rc_op rfl rfl (ow_storeI rfl rfl (by kernel_rfl) hO60 1 rfl rfl ⟨by omega, by omega⟩ rfl) ?_
      rintro _ w63 ⟨rfl, hO64, hs65⟩
      have hS66 : Own w.heap.size w w63 ([some (lch ba 180 (arcL fr to lf gn e))]) := by exact hO64.sub (.cons_cons _ (List.nil_sublist _))
      refine ⟨hS66, ?_⟩
      refine rh_v 19 rfl (by kernel_rfl) rfl rfl rfl hS66 (fun _ hS => ov_index1 rfl Tryz.underlying36 (by kernel_rfl) rfl rfl ⟨by omega, by omega⟩ (by rfl)) ?_
      refine rh_any1 20 (by kernel_rfl) ?_
      refine rc_op rfl rfl (ow_storeI rfl rfl (by kernel_rfl) hO64 2 rfl rfl ⟨by omega, by omega⟩ rfl) ?_
      rintro _ w67 ⟨rfl, hO68, hs69⟩
      have hS70 : Own w.heap.size w w67 ([some (lch ba 180 (arcL fr to lf gn e))]) := by exact hO68.sub (.cons_cons _ (List.nil_sublist _))
      refine ⟨hS70, ?_⟩
      refine rh_v 21 rfl (by kernel_rfl) rfl rfl rfl hS70 (fun _ hS => ov_assign rfl rfl) ?_
      refine rh_done (by kernel_rfl) ?_
      refine run_inBlock <| run_region <| rl_v rfl rfl rfl (ov_add rfl rfl rfl (by omega)) ?_
      refine rl_v rfl rfl rfl (ov_move rfl rfl) <| rl_nil ?_
      refine Run.use (ih47 (e + 1) (upd h2 (to e) (h2 (fr e) + gn e)) (upd l2 (to e) e) (to e) (upd tau2 (to e) (k * M + e + 1)) _ ?_ ?_) (And.intro (by exact slot_int rfl (by first | omega)) (And.intro (by exact slot_int rfl (by first | omega)) (And.intro rfl (And.intro rfl (And.intro rfl (And.intro rfl (And.intro rfl (And.intro rfl (And.intro rfl trivial)))))))))
      ·first | omega | (dsimp only; omega)
      ·exact ⟨by omega, by omega, hI2.take (by omega) he0 h3 h4.1 h4.2 hg1 ht0 ht1, hO68.tail⟩
     ·refine run_skip <| run_inBlock <| run_region <| rl_v rfl rfl rfl (ov_add rfl rfl rfl (by omega)) ?_
      refine rl_v rfl rfl rfl (ov_move rfl rfl) <| rl_nil ?_
      refine Run.use (ih47 (e + 1) (h2) (l2) (on2) (tau2) _ ?_ ?_) (And.intro (by exact slot_int rfl (by first | omega)) (And.intro (by exact slot_int rfl (by first | omega)) (And.intro rfl (And.intro rfl (And.intro rfl (And.intro rfl (And.intro rfl (And.intro rfl (And.intro rfl trivial)))))))))
      ·first | omega | (dsimp only; omega)
      ·exact ⟨by omega, by omega, hI2.skip he0 h4, hO58.tail⟩
   ·obtain rfl : e = M := by omega
    have hend := hback _ _ _ _ _ hI2
    refine run_exit rfl <| run_seq <| run_region <| rl_v rfl rfl rfl (ov_move rfl rfl) <| rl_v rfl rfl rfl (ov_lss rfl rfl rfl) <| rl_nil ?_
    first | refine run_cond_dec rfl (fun h5 => ?_) (fun h5 => ?_) | refine run_cond rfl (fun h5 => ?_) (fun h5 => ?_)
    ·refine run_exit rfl <| run_seq <| run_region <| rl_v rfl rfl rfl (ov_move rfl rfl) <| rl_v rfl rfl rfl (ov_move rfl rfl) <| rl_v rfl rfl rfl (ov_move rfl rfl) <| rl_v rfl rfl rfl (ov_assign rfl rfl) <| rl_v rfl rfl rfl (ov_assign rfl rfl) <| rl_v rfl rfl rfl (ov_assign rfl rfl) <| rl_nil <| run_ret Tryz.func126 (res3 Tryz.results126 rfl rfl rfl) ?_
     exact ⟨bh, bl, h2, l2, on2, rfl, hO2, fun v => by have := hI2.hb v; omega, .inl ⟨h5, hI2.calm h5, tau2, hend, fun v hv => hI2.hz v (by have := hI2.t0 v; omega)⟩⟩
    ·refine run_skip <| run_inBlock <| run_region <| rl_v rfl rfl rfl (ov_add rfl rfl rfl (by omega)) ?_
     refine rl_v rfl rfl rfl (ov_move rfl rfl) <| rl_nil ?_
     refine Run.use (ih45 (k + 1) (h2) (l2) (on2) (tau2) _ ?_ ?_) (And.intro (by exact slot_int rfl (by first | omega)) (And.intro (by exact slot_int rfl (by first | omega)) (And.intro rfl (And.intro rfl (And.intro rfl (And.intro rfl trivial))))))
     ·first | omega | (dsimp only; omega)
     ·exact ⟨by omega, by omega, .inr ⟨by omega, by omega, by rw [Int.add_mul, Int.one_mul, Int.add_sub_cancel]; exact hI2⟩, hO2⟩
  ·obtain rfl : k = n + 1 := by omega
   rcases hI with ⟨e1, _⟩ | ⟨_, hon, hI⟩
   ·omega
   have hM0 : 0 ≤ (M : Int) := by omega
   rw [Int.add_mul, Int.one_mul, Int.add_sub_cancel] at hI
   have hC := hI.C
   refine run_exit rfl <| run_seq <| run_region <| rl_v rfl rfl rfl (ov_move rfl rfl) <| rl_v rfl rfl rfl (ov_move rfl rfl) <| rl_v rfl rfl rfl (ov_move rfl rfl) <| rl_v rfl rfl rfl (ov_assign rfl rfl) <| rl_v rfl rfl rfl (ov_assign rfl rfl) <| rl_v rfl rfl rfl (ov_assign rfl rfl) <| rl_nil <| run_ret Tryz.func126 (res3 Tryz.results126 rfl rfl rfl) ?_
   exact ⟨bh, bl, h, l, on, rfl, hO, fun v => by have := hI.hb v; rw [Int.add_mul] at hkM; omega, .inr ⟨hon, by omega, tau, hback _ _ _ _ _ hI, by omega⟩⟩
end Go.Proofs.YtbepolognfdkeaaGreat
