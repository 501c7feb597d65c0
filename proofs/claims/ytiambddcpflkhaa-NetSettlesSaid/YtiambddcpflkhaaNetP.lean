/- Crises: arePayments, rowOf, Received, IsClearing. -/
import Derived.Test.YtiambddcpflkhaaNetO
set_option maxRecDepth 100000
namespace Go.Proofs.Ytiambddcpflkhaa
open Go.RowKit Go.Proofs

theorem rowOf_any (ao : Option Addr) (n c : Nat) (p : Int → Int) (w : World) (hn : 1 ≤ n) (hn2 : n ≤ 32) (h : IAt w.heap.size w ao n (fun i => .int .i64 (p i))) :
    Calls Try.prog 67 #[.slice ao n c] w fun e w' => e = .returned (arrv 32 (fun i => .int .i64 (upto n p i))) ∧ Below w.heap.size w w' := by
  obtain ⟨gb, go, hga, hrow⟩ := h.open
  obtain rfl := hga (by omega)
  refine calls_of_run (F := [(0, _)]) Try.func67 rfl Try.ntmps67 rfl rfl ?_
  have hO0 := Own.init w
  refine run_seq ?_
  refine run_region ?_
  refine rl_ow rfl (ow_allocA 32 rfl rfl rfl zero_101 rfl hO0) ?_
  rintro _ w1 ⟨b2, rfl, hO2, hs3⟩
  refine rl_nil ?_
  refine run_seq ?_
  refine run_region ?_
  refine rl_ow rfl (ow_allocA 32 rfl rfl rfl zero_101 rfl hO2) ?_
  rintro _ w4 ⟨b3, rfl, hO5, hs6⟩
  refine rl_nil ?_
  refine run_seq ?_
  refine run_region ?_
  refine rl_v rfl rfl rfl (ov_sliceAF (s := 1) rfl Try.underlying101 (by kernel_rfl) rfl) ?_
  refine rl_v rfl rfl rfl (ov_move rfl rfl) ?_
  refine rl_ow rfl (ow_copy (n) rfl rfl rfl Try.underlying23 (by kernel_rfl) hO5 0 rfl rfl rfl (by first | rfl | omega) (by first | omega | (simp; omega)) (fun i h0 hi => hrow _ hO5.below i h0 (by omega)) (fun _ => rfl)) ?_
  rintro _ w7 ⟨rfl, hO8, hs9⟩
  have hO5 := hO8.congrI 0 rfl (G' := fun i => .int .i64 (upto n p i)) (fun i i0 i1 => by unfold upto; split <;> split <;> first | (congr 1; congr 1; simp; done) | rfl | omega)
  refine rl_nil ?_
  refine run_seq ?_
  refine run_region ?_
  refine rl_v rfl rfl rfl (ov_loadA rfl Try.underlying101 rfl (by kernel_rfl) rfl hO5 0 rfl) ?_
  refine rl_ow rfl (ow_storeA rfl rfl (by kernel_rfl) hO5 1 rfl rfl rfl (fun _ => rfl)) ?_
  rintro _ w10 ⟨rfl, hO11, hs12⟩
  refine rl_nil ?_
  refine run_ret Try.func67 (resA Try.results67 rfl Try.underlying101 rfl (by kernel_rfl) hO11 1 rfl) ?_
  exact ⟨rfl, hO11.below⟩

theorem arePayments_any (ao ac bo : Option Addr) (n c cc m cb : Nat) (D : Int → Int → Int) (cash p : Int → Int) (w : World) (hv : Valid n D) (hc : ∀ i : Int, 0 ≤ i → i < n → 0 ≤ cash i ∧ cash i ≤ 1000000) (hm : m ≤ 1000000)
    (h : ITab w.heap.size w ao n (fun _ => n) (fun r c => .int .i64 (D r c))) (hC : IAt w.heap.size w ac n (fun i => .int .i64 (cash i))) (h2 : IAt w.heap.size w bo m (fun i => .int .i64 (p i))) :
    Calls Try.prog 64 #[.agg [.slice ao n c, .slice ac n cc].toArray, .slice bo m cb] w fun e w' => (∃ f : Int, e = .returned (.int .i64 f) ∧
      (m ≠ n ∧ f = 7 ∨ m = n ∧ (¬ ∀ i : Int, 0 ≤ i → i < n → 0 ≤ p i ∧ p i ≤ ow n D i) ∧ f = 1 ∨ m = n ∧ (∀ i : Int, 0 ≤ i → i < n → 0 ≤ p i ∧ p i ≤ ow n D i) ∧ f = 0)) ∧ Below w.heap.size w w' := by
  obtain ⟨qb, qo, hqa, hq⟩ := h2.open
  have hle := hv.le
  have hpos := hv.pos
  refine calls_of_run (F := [(0, _), (1, _)]) Try.func64 rfl Try.ntmps64 rfl rfl ?_
  have hO0 := Own.init w
  refine run_seq ?_
  refine run_region ?_
  refine rl_ow rfl (ow_box _ rfl rfl rfl rfl rfl hO0) ?_
  rintro _ w1 ⟨b1, rfl, hO2, hs3⟩
  refine rl_v rfl rfl rfl (ov_assign rfl rfl) ?_
  refine rl_nil ?_
  refine run_seq ?_
  refine run_seq ?_
  refine run_region ?_
  refine rl_v rfl rfl rfl (ov_loadW rfl Try.underlying37 rfl (by kernel_rfl) rfl hO2 0 rfl) ?_
  refine rl_call callable_56 rfl rfl rfl rfl rfl rfl (checkCrisis_any ao ac n c n cc (fun _ => n) D cash _ (by omega) (by omega) (h.later hO2.below) (hC.later hO2.below)) (fun e4 w5 hp6 => ?_)
  obtain ⟨rfl, hb⟩ := hp6
  refine ⟨_, rfl, ?_⟩
  have hO7 := hO2.past hb
  rw [hv.chkCr hc]
  refine rl_v rfl rfl rfl (ov_assign rfl rfl) ?_
  refine rl_nil ?_
  refine run_seq ?_
  refine run_region ?_
  refine rl_v rfl rfl rfl (ov_move rfl rfl) ?_
  refine rl_v rfl rfl rfl (ov_neq rfl rfl rfl) ?_
  refine rl_nil ?_
  first | refine run_cond_dec rfl (fun h1 => ?_) (fun h1 => ?_) | refine run_cond rfl (fun h1 => ?_) (fun h1 => ?_)
  · exfalso; exact h1 rfl
  · refine run_skip ?_
    refine run_seq ?_
    refine run_seq ?_
    refine run_region ?_
    refine rl_v rfl rfl rfl (ov_move rfl rfl) ?_
    refine rl_v rfl rfl rfl (ov_len rfl Try.underlying23 rfl) ?_
    refine rl_v rfl rfl rfl (ov_fieldS rfl Try.underlying37 rfl (fo := 0) rfl (by kernel_rfl) rfl) ?_
    refine rl_v rfl rfl rfl (ov_load rfl Try.underlying22 rfl rfl (by first | exact hO7.cellI 0 rfl _ (by omega) (by omega) | exact hO7.cellL 0 rfl rfl | exact hO7.cellI 1 rfl _ (by omega) (by omega) | exact hO7.cellL 1 rfl rfl | exact hO7.cellI 2 rfl _ (by omega) (by omega) | exact hO7.cellL 2 rfl rfl | exact hO7.cellI 3 rfl _ (by omega) (by omega) | exact hO7.cellL 3 rfl rfl | exact hO7.cellI 4 rfl _ (by omega) (by omega) | exact hO7.cellL 4 rfl rfl | exact hO7.cellI 5 rfl _ (by omega) (by omega) | exact hO7.cellL 5 rfl rfl)) ?_
    refine rl_v rfl rfl rfl (ov_len rfl Try.underlying22 rfl) ?_
    refine rl_v rfl rfl rfl (ov_neq rfl rfl rfl) ?_
    refine rl_nil ?_
    first | refine run_cond_dec rfl (fun h3 => ?_) (fun h3 => ?_) | refine run_cond rfl (fun h3 => ?_) (fun h3 => ?_)
    · refine run_seq ?_
      refine run_region ?_
      refine rl_v rfl rfl rfl (ov_assign rfl rfl) ?_
      refine rl_nil ?_
      refine run_ret Try.func64 (res1 Try.results64 rfl) ?_
      exact ⟨⟨_, rfl, .inl ⟨by omega, rfl⟩⟩, hO7.below⟩
    · obtain rfl : m = n := by omega
      refine run_skip ?_
      refine run_seq ?_
      refine run_seq ?_
      refine run_region ?_
      refine rl_v rfl rfl rfl (ov_move rfl rfl) ?_
      refine rl_v rfl rfl rfl (ov_len rfl Try.underlying23 rfl) ?_
      refine rl_v rfl rfl rfl (ov_move rfl rfl) ?_
      refine rl_nil ?_
      refine run_block ?_
      refine Run.keep [2, 19, 20, 21] (F' := [(2, _), (19, _), (20, _), (21, _)]) rfl ?_
      refine run_loop1 (fun (k : Int) => [(21, .int .i64 k)]) [2, 19, 20] (fun (k : Int) (w8 : World) => 0 ≤ k ∧ k ≤ m ∧ (∀ i : Int, 0 ≤ i → i < k → 0 ≤ p i ∧ p i ≤ ow m D i) ∧ Own w.heap.size w w8 [some (lch b1 37 [.slice ao m c, .slice ac m cc])]) (fun (k : Int) => ((m : Int) - k).toNat) (0) ?_ (And.intro (by first | with_reducible rfl | exact slot_int rfl (by first | omega) | rfl) (And.intro rfl (And.intro rfl (And.intro rfl trivial)))) ?_
      · exact ⟨by omega, by omega, fun i i0 i1 => by omega, hO7⟩
      intro k w8 hIw8 ih9
      obtain ⟨hk0, hk1, hall, hO⟩ := hIw8
      show Run _ _ _ _ [(21, _), (2, _), (19, _), (20, _)] _ _
      refine run_seq ?_
      refine run_region ?_
      refine rl_v rfl rfl rfl (ov_lss rfl rfl rfl) ?_
      refine rl_nil ?_
      refine run_seq ?_
      first | refine run_cond_dec rfl (fun h4 => ?_) (fun h4 => ?_) | refine run_cond rfl (fun h4 => ?_) (fun h4 => ?_)
      · refine run_skip ?_
        refine run_seq ?_
        refine run_block ?_
        refine run_seq ?_
        refine run_region ?_
        refine rl_v rfl rfl rfl (ov_move rfl rfl) ?_
        refine rl_v rfl rfl rfl (ov_index1 rfl Try.underlying23 (by kernel_rfl) rfl rfl ⟨by omega, by omega⟩ (by first | rfl | exact hqa (by omega))) ?_
        refine rl_v rfl rfl rfl (ov_load rfl Try.underlying2 rfl rfl (by first | exact hq _ hO.below _ (by omega) (by omega) | exact hO.cellI 0 rfl _ (by omega) (by omega) | exact hO.cellL 0 rfl rfl | exact hO.cellI 1 rfl _ (by omega) (by omega) | exact hO.cellL 1 rfl rfl | exact hO.cellI 2 rfl _ (by omega) (by omega) | exact hO.cellL 2 rfl rfl | exact hO.cellI 3 rfl _ (by omega) (by omega) | exact hO.cellL 3 rfl rfl | exact hO.cellI 4 rfl _ (by omega) (by omega) | exact hO.cellL 4 rfl rfl | exact hO.cellI 5 rfl _ (by omega) (by omega) | exact hO.cellL 5 rfl rfl)) ?_
        refine rl_v rfl rfl rfl (ov_assign rfl rfl) ?_
        refine rl_v rfl rfl rfl (ov_assign rfl rfl) ?_
        refine rl_nil ?_
        refine run_seq ?_
        refine run_region ?_
        refine rl_v rfl rfl rfl (ov_move rfl rfl) ?_
        refine rl_v rfl rfl rfl (ov_lss rfl rfl rfl) ?_
        refine rl_v rfl rfl rfl (ov_move rfl rfl) ?_
        first | refine rl_split_dec 28 rfl (fun hg => ?_) (fun hg => ?_) | refine rl_split 28 rfl (fun hg => ?_) (fun hg => ?_)
        · refine rl_gskip rfl rfl rfl rfl rfl rfl ?_
          refine rl_gskip rfl rfl rfl rfl rfl rfl ?_
          refine rl_gskip rfl rfl rfl rfl rfl rfl ?_
          refine rl_gskip rfl rfl rfl rfl rfl rfl ?_
          refine rl_gskip rfl rfl rfl rfl rfl rfl ?_
          refine rl_v rfl rfl rfl (ov_pick_t rfl rfl rfl) ?_
          refine rl_nil ?_
          refine run_cond_t rfl ?_
          refine run_seq ?_
          refine run_region ?_
          refine rl_v rfl rfl rfl (ov_assign rfl rfl) ?_
          refine rl_nil ?_
          refine run_ret Try.func64 (res1 Try.results64 rfl) ?_
          exact ⟨⟨_, rfl, .inr (.inl ⟨rfl, fun h => by have := h k hk0 h4; omega, rfl⟩)⟩, hO.below⟩
        · refine rl_gv rfl rfl rfl rfl rfl (ov_move rfl rfl) ?_
          refine rl_gv rfl rfl rfl rfl rfl (ov_loadW rfl Try.underlying37 rfl (by kernel_rfl) rfl hO 0 rfl) ?_
          refine rl_gv rfl rfl rfl rfl rfl (ov_move rfl rfl) ?_
          refine rl_gcall callable_70 rfl rfl rfl rfl rfl rfl rfl rfl (total_any ao m c D (.slice ac m cc) k _ hv hk0 h4 (h.later hO.below)) (fun e11 w12 hp13 => ?_)
          obtain ⟨rfl, hb2⟩ := hp13
          refine ⟨_, rfl, ?_⟩
          have hO14 := hO.past hb2
          refine rl_gv rfl rfl rfl rfl rfl (ov_gtr rfl rfl rfl) ?_
          refine rl_v rfl rfl rfl (ov_pick_f rfl rfl rfl) ?_
          refine rl_nil ?_
          first | refine run_cond_dec rfl (fun h6 => ?_) (fun h6 => ?_) | refine run_cond rfl (fun h6 => ?_) (fun h6 => ?_)
          · refine run_seq ?_
            refine run_region ?_
            refine rl_v rfl rfl rfl (ov_assign rfl rfl) ?_
            refine rl_nil ?_
            refine run_ret Try.func64 (res1 Try.results64 rfl) ?_
            exact ⟨⟨_, rfl, .inr (.inl ⟨rfl, fun h => by have := h k hk0 h4; omega, rfl⟩)⟩, hO14.below⟩
          · refine run_skip ?_
            refine run_inBlock ?_
            refine run_region ?_
            refine rl_v rfl rfl rfl (ov_add rfl rfl rfl (by omega)) ?_
            refine rl_v rfl rfl rfl (ov_move rfl rfl) ?_
            refine rl_nil ?_
            refine Run.use (ih9 _ _ ?_ ?_) (And.intro (by first | with_reducible rfl | exact slot_int rfl (by first | omega) | rfl) (And.intro rfl (And.intro rfl (And.intro rfl trivial))))
            · first | omega | (dsimp only; omega)
            · exact ⟨by omega, by omega, fun i h0 h1' => (by omega : i = k ∨ i < k).elim (fun e => by rw [e]; omega) (fun e => hall i h0 e), hO14⟩
      · refine run_exit rfl ?_
        refine run_seq ?_
        refine run_region ?_
        refine rl_v rfl rfl rfl (ov_assign rfl rfl) ?_
        refine rl_nil ?_
        refine run_ret Try.func64 (res1 Try.results64 rfl) ?_
        exact ⟨⟨_, rfl, .inr (.inr ⟨rfl, fun i i0 i1 => hall i i0 (by omega), rfl⟩)⟩, hO.below⟩

theorem received_any2 (ao ac bo : Option Addr) (n c cc m cb : Nat) (D : Int → Int → Int) (cash p : Int → Int) (w : World) (hv : Valid n D) (hc : ∀ i : Int, 0 ≤ i → i < n → 0 ≤ cash i ∧ cash i ≤ 1000000) (hm : m ≤ 1000000)
    (h : ITab w.heap.size w ao n (fun _ => n) (fun r c => .int .i64 (D r c))) (hC : IAt w.heap.size w ac n (fun i => .int .i64 (cash i))) (h2 : IAt w.heap.size w bo m (fun i => .int .i64 (p i))) :
    Calls Try.prog 21 #[.agg [.slice ao n c, .slice ac n cc].toArray, .slice bo m cb] w fun e w' => ∃ (f : Int) (xo : Option Addr) (q xc : Nat) (c' : Option Blk), e = .returned (.tuple #[.slice xo q xc, .int .i64 f]) ∧
      (m ≠ n ∧ f = 7 ∧ q = 0 ∨ m = n ∧ (¬ ∀ i : Int, 0 ≤ i → i < n → 0 ≤ p i ∧ p i ≤ ow n D i) ∧ f = 1 ∧ q = 0 ∨ m = n ∧ (∀ i : Int, 0 ≤ i → i < n → 0 ≤ p i ∧ p i ≤ ow n D i) ∧ f = 0 ∧ q = n) ∧
      IRow (.slice xo q xc) 2 q (fun i => .int .i64 (rcv n D p i)) c' ∧ Own w.heap.size w w' [c'] := by
  have hle := hv.le
  have hpos := hv.pos
  refine calls_of_run (F := [(0, _), (1, _)]) Try.func21 rfl Try.ntmps21 rfl rfl ?_
  have hO0 := Own.init w
  refine run_seq ?_
  refine run_region ?_
  refine rl_ow rfl (ow_box _ rfl rfl rfl rfl rfl hO0) ?_
  rintro _ w1 ⟨b1, rfl, hO2, hs3⟩
  refine rl_v rfl rfl rfl (ov_assign rfl rfl) ?_
  refine rl_v rfl rfl rfl (ov_assign rfl rfl) ?_
  refine rl_nil ?_
  refine run_seq ?_
  refine run_seq ?_
  refine run_region ?_
  refine rl_v rfl rfl rfl (ov_loadW rfl Try.underlying37 rfl (by kernel_rfl) rfl hO2 0 rfl) ?_
  refine rl_v rfl rfl rfl (ov_move rfl rfl) ?_
  refine rl_call callable_64 rfl rfl rfl rfl rfl rfl (arePayments_any ao ac bo n c cc m cb D cash p _ hv hc hm (h.later hO2.below) (hC.later hO2.below) (h2.later hO2.below)) (fun e4 w5 hp6 => ?_)
  obtain ⟨⟨f, rfl, hcase⟩, hb⟩ := hp6
  refine ⟨_, rfl, ?_⟩
  have hO7 := hO2.past hb
  refine rl_v rfl rfl rfl (ov_assign rfl rfl) ?_
  refine rl_nil ?_
  refine run_seq ?_
  refine run_region ?_
  refine rl_v rfl rfl rfl (ov_move rfl rfl) ?_
  refine rl_v rfl rfl rfl (ov_neq rfl rfl rfl) ?_
  refine rl_nil ?_
  first | refine run_cond_dec rfl (fun h1 => ?_) (fun h1 => ?_) | refine run_cond rfl (fun h1 => ?_) (fun h1 => ?_)
  · refine run_seq ?_
    refine run_region ?_
    refine rl_v rfl rfl rfl (ov_move rfl rfl) ?_
    refine rl_v rfl rfl rfl (ov_assign rfl rfl) ?_
    refine rl_v rfl rfl rfl (ov_assign rfl rfl) ?_
    refine rl_nil ?_
    refine run_ret Try.func21 (res2 Try.results21 rfl rfl) ?_
    exact ⟨f, none, 0, 0, none, rfl, by rcases hcase with ⟨a, b⟩ | ⟨a, b, c⟩ | ⟨a, b, c⟩; exact .inl ⟨a, b, rfl⟩; exact .inr (.inl ⟨a, b, c, rfl⟩); exact absurd c h1, IRow.nil _ _, hO7.tail.nil_cons⟩
  · obtain ⟨hmn, hp⟩ : m = n ∧ ∀ i : Int, 0 ≤ i → i < n → 0 ≤ p i ∧ p i ≤ ow n D i := by
      rcases hcase with ⟨a, b⟩ | ⟨a, b, c⟩ | ⟨a, b, c⟩
      · exact absurd b (by omega)
      · exact absurd c (by omega)
      · exact ⟨a, b⟩
    subst hmn
    clear hcase
    have hup : ∀ i : Int, 0 ≤ i → i < m → 0 ≤ upto m p i ∧ upto m p i ≤ ow m D i := fun i i0 i1 => by rw [upto_in i0 i1]; exact hp i i0 i1
    refine run_skip ?_
    refine run_seq ?_
    refine run_held (fun w' => Own w.heap.size w w' ([some (lch b1 37 [.slice ao m c, .slice ac m cc])])) mixed ?_
    have hO9 := hO7.drew
    generalize World.drew w5 = w8 at hO9 ⊢
    have hS10 : Own w.heap.size w w8 ([some (lch b1 37 [.slice ao m c, .slice ac m cc])]) := by first | exact hO9 | exact hO9.tail
    refine rh_v 0 rfl (by kernel_rfl) rfl rfl rfl hS10 (fun _ hS => ov_loadW rfl Try.underlying37 rfl (by kernel_rfl) rfl hS 0 rfl) ?_
    refine rh_v 1 rfl (by kernel_rfl) rfl rfl rfl hS10 (fun _ hS => ov_loadW rfl Try.underlying37 rfl (by kernel_rfl) rfl hS 0 rfl) ?_
    refine rh_v 2 rfl (by kernel_rfl) rfl rfl rfl hS10 (fun _ hS => ov_move rfl rfl) ?_
    refine rh_v 4 rfl (by kernel_rfl) rfl rfl rfl hS10 (fun _ hS => ov_loadW rfl Try.underlying37 rfl (by kernel_rfl) rfl hS 0 rfl) ?_
    refine rh_any1 3 (by kernel_rfl) ?_
    refine rc_op rfl rfl (ow_call2 callable_67 rfl rfl rfl rfl rfl (rowOf_any bo m cb p _ hpos hle (h2.later hO9.below)) (by intro e w' hp; obtain ⟨rfl, hb2⟩ := hp; exact ⟨_, rfl⟩)) ?_
    rintro _ w13 ⟨_, v11, he14, rfl, hp12⟩
    obtain ⟨rfl, hb2⟩ := hp12
    injection he14 with he14; subst he14
    have hO15 := hO9.past hb2
    have hS16 : Own w.heap.size w w13 ([some (lch b1 37 [.slice ao m c, .slice ac m cc])]) := by first | exact hO15 | exact hO15.tail
    refine ⟨hS16, ?_⟩
    refine rh_any1 5 (by kernel_rfl) ?_
    refine rc_op rfl rfl (ow_call2 callable_68 rfl rfl rfl rfl rfl (owed_any ao m c D (.slice ac m cc) _ hv (h.later hO15.below)) (by intro e w' hp; obtain ⟨rfl, hb3⟩ := hp; exact ⟨_, rfl⟩)) ?_
    rintro _ w19 ⟨_, v17, he20, rfl, hp18⟩
    obtain ⟨rfl, hb3⟩ := hp18
    injection he20 with he20; subst he20
    have hO21 := hO15.past hb3
    have hS22 : Own w.heap.size w w19 ([some (lch b1 37 [.slice ao m c, .slice ac m cc])]) := by first | exact hO21 | exact hO21.tail
    refine ⟨hS22, ?_⟩
    refine rh_any1 6 (by kernel_rfl) ?_
    refine rc_op rfl rfl (ow_call2 callable_66 rfl rfl rfl rfl rfl (received_any ao m c D (.slice ac m cc) (upto m p) (upto m (ow m D)) _ hv (fun i i0 i1 => upto_in i0 i1) hup (h.later hO21.below)) (by intro e w' hp; obtain ⟨rfl, hb4⟩ := hp; exact ⟨_, rfl⟩)) ?_
    rintro _ w25 ⟨_, v23, he26, rfl, hp24⟩
    obtain ⟨rfl, hb4⟩ := hp24
    injection he26 with he26; subst he26
    have hO27 := hO21.past hb4
    have hS28 : Own w.heap.size w w25 ([some (lch b1 37 [.slice ao m c, .slice ac m cc])]) := by first | exact hO27 | exact hO27.tail
    refine ⟨hS28, ?_⟩
    refine rh_any1 7 (by kernel_rfl) ?_
    refine rc_op rfl rfl (ow_call2 callable_65 rfl rfl rfl rfl rfl (list_any ao m c (.slice ac m cc) (upto m (rcv m D (upto m p))) _ hle) (by intro e w' hp; obtain ⟨v, c', rfl, hr, hO2⟩ := hp; exact ⟨_, rfl⟩)) ?_
    rintro _ w31 ⟨_, v29, he32, rfl, hp30⟩
    obtain ⟨v, c', rfl, hr, hO2⟩ := hp30
    injection he32 with he32; subst he32
    have hO33 := hO27.join hO2
    have hS34 : Own w.heap.size w w31 ([some (lch b1 37 [.slice ao m c, .slice ac m cc])]) := by first | exact hO33 | exact hO33.tail
    refine ⟨hS34, ?_⟩
    obtain ⟨xo, xc, rfl⟩ := hr.val
    refine rh_v 8 rfl (by kernel_rfl) rfl rfl rfl hS34 (fun _ hS => ov_assign rfl rfl) ?_
    refine rh_v 9 rfl (by kernel_rfl) rfl rfl rfl hS34 (fun _ hS => ov_assign rfl rfl) ?_
    refine rh_done (by kernel_rfl) ?_
    refine run_ret Try.func21 (res2 Try.results21 rfl rfl) ?_
    exact ⟨0, xo, m, xc, c', rfl, .inr (.inr ⟨rfl, hp, rfl, rfl⟩), hr.congr fun i i0 i1 => by rw [upto_in i0 i1, rcv_congr fun j j0 j1 => upto_in j0 j1], hO33.sub (.cons_cons _ (List.nil_sublist _))⟩

theorem isClearing_any (ao ac bo : Option Addr) (n c cc m cb : Nat) (D : Int → Int → Int) (cash p : Int → Int) (w : World) (hv : Valid n D) (hc : ∀ i : Int, 0 ≤ i → i < n → 0 ≤ cash i ∧ cash i ≤ 1000000) (hm : m ≤ 1000000)
    (h : ITab w.heap.size w ao n (fun _ => n) (fun r c => .int .i64 (D r c))) (hC : IAt w.heap.size w ac n (fun i => .int .i64 (cash i))) (h2 : IAt w.heap.size w bo m (fun i => .int .i64 (p i))) :
    Calls Try.prog 25 #[.agg [.slice ao n c, .slice ac n cc].toArray, .slice bo m cb] w fun e w' => (∃ b, e = .returned (.bool b) ∧ (b = true ↔ Clg n D cash m p)) ∧ Below w.heap.size w w' := by
  have hle := hv.le
  have hpos := hv.pos
  obtain ⟨qb, qo, hqa, hq⟩ := hC.open
  refine calls_of_run (F := [(0, _), (1, _)]) Try.func25 rfl Try.ntmps25 rfl rfl ?_
  have hO0 := Own.init w
  refine run_seq ?_
  refine run_region ?_
  refine rl_ow rfl (ow_box _ rfl rfl rfl rfl rfl hO0) ?_
  rintro _ w1 ⟨b1, rfl, hO2, hs3⟩
  refine rl_v rfl rfl rfl (ov_assign rfl rfl) ?_
  refine rl_nil ?_
  refine run_seq ?_
  refine run_seq ?_
  refine run_region ?_
  refine rl_v rfl rfl rfl (ov_loadW rfl Try.underlying37 rfl (by kernel_rfl) rfl hO2 0 rfl) ?_
  refine rl_v rfl rfl rfl (ov_move rfl rfl) ?_
  refine rl_call callable_64 rfl rfl rfl rfl rfl rfl (arePayments_any ao ac bo n c cc m cb D cash p _ hv hc hm (h.later hO2.below) (hC.later hO2.below) (h2.later hO2.below)) (fun e4 w5 hp6 => ?_)
  obtain ⟨⟨f, rfl, hcase⟩, hb⟩ := hp6
  refine ⟨_, rfl, ?_⟩
  have hO7 := hO2.past hb
  refine rl_v rfl rfl rfl (ov_neq rfl rfl rfl) ?_
  refine rl_nil ?_
  first | refine run_cond_dec rfl (fun h1 => ?_) (fun h1 => ?_) | refine run_cond rfl (fun h1 => ?_) (fun h1 => ?_)
  · have hno : ¬ Clg n D cash m p := by
      rintro ⟨a, b, _⟩
      rcases hcase with ⟨a', _⟩ | ⟨_, b', _⟩ | ⟨_, _, c'⟩
      · exact a' a
      · exact b' b
      · exact absurd c' h1
    refine run_seq ?_
    refine run_region ?_
    refine rl_v rfl rfl rfl (ov_assign rfl rfl) ?_
    refine rl_nil ?_
    refine run_ret Try.func25 (res1 Try.results25 rfl) ?_
    exact ⟨⟨false, rfl, ⟨fun h => Bool.noConfusion h, fun h => absurd h hno⟩⟩, hO7.below⟩
  · obtain ⟨hmn, hp⟩ : m = n ∧ ∀ i : Int, 0 ≤ i → i < n → 0 ≤ p i ∧ p i ≤ ow n D i := by
      rcases hcase with ⟨a, b⟩ | ⟨a, b, c⟩ | ⟨a, b, c⟩
      · exact absurd b (by omega)
      · exact absurd c (by omega)
      · exact ⟨a, b⟩
    subst hmn
    clear hcase
    have hup : ∀ i : Int, 0 ≤ i → i < m → 0 ≤ upto m p i ∧ upto m p i ≤ ow m D i := fun i i0 i1 => by rw [upto_in i0 i1]; exact hp i i0 i1
    refine run_skip ?_
    refine run_seq ?_
    refine run_region ?_
    refine rl_v rfl rfl rfl (ov_loadW rfl Try.underlying37 rfl (by kernel_rfl) rfl hO7 0 rfl) ?_
    refine rl_call callable_68 rfl rfl rfl rfl rfl rfl (owed_any ao m c D (.slice ac m cc) _ hv (h.later hO7.below)) (fun e8 w9 hp10 => ?_)
    obtain ⟨rfl, hb3⟩ := hp10
    refine ⟨_, rfl, ?_⟩
    have hO11 := hO7.past hb3
    refine rl_ow rfl (ow_allocA 32 rfl rfl rfl zero_101 rfl hO11) ?_
    rintro _ w12 ⟨b2, rfl, hO13, hs14⟩
    refine rl_ow rfl (ow_storeA rfl rfl (by kernel_rfl) hO13 0 rfl rfl rfl (fun _ => rfl)) ?_
    rintro _ w15 ⟨rfl, hO16, hs17⟩
    refine rl_nil ?_
    refine run_seq ?_
    refine Run.keep [1, 2, 5] (F' := [(1, _), (2, _), (5, _)]) rfl ?_
    refine run_join1 (fun (b3 : Nat) => [(6, .pointer (some ⟨b3, 0, none⟩))]) [1, 2, 5] (fun (b3 : Nat) (w18 : World) => Own w.heap.size w w18 [some (vch b3 101 32 (fun i => .int .i64 (upto m (rcv m D (upto m p)) i))), some (vch b2 101 32 (fun i => .int .i64 (upto m (ow m D) i))), some (lch b1 37 [.slice ao m c, .slice ac m cc])]) (fun hk19 => ?_) ?_
    · refine run_held (fun w' => Own w.heap.size w w' ([some (vch b2 101 32 (fun i => .int .i64 (upto m (ow m D) i))), some (lch b1 37 [.slice ao m c, .slice ac m cc])])) mixed ?_
      have hO21 := hO16.drew
      generalize World.drew w15 = w20 at hO21 ⊢
      have hS22 : Own w.heap.size w w20 ([some (vch b2 101 32 (fun i => .int .i64 (upto m (ow m D) i))), some (lch b1 37 [.slice ao m c, .slice ac m cc])]) := by first | exact hO21 | exact hO21.tail
      refine rh_v 0 rfl (by kernel_rfl) rfl rfl rfl hS22 (fun _ hS => ov_loadW rfl Try.underlying37 rfl (by kernel_rfl) rfl hS 1 rfl) ?_
      refine rh_v 1 rfl (by kernel_rfl) rfl rfl rfl hS22 (fun _ hS => ov_move rfl rfl) ?_
      refine rh_v 3 rfl (by kernel_rfl) rfl rfl rfl hS22 (fun _ hS => ov_loadA rfl Try.underlying101 rfl (by kernel_rfl) rfl hS 0 rfl) ?_
      refine rh_any2 2 5 (by kernel_rfl) ?_ ?_
      · refine rc_op rfl rfl (ow_call2 callable_67 rfl rfl rfl rfl rfl (rowOf_any bo m cb p _ hpos hle (h2.later hO21.below)) (by intro e w' hp; obtain ⟨rfl, hb2⟩ := hp; exact ⟨_, rfl⟩)) ?_
        rintro _ w25 ⟨_, v23, he26, rfl, hp24⟩
        obtain ⟨rfl, hb2⟩ := hp24
        injection he26 with he26; subst he26
        have hO27 := hO21.past hb2
        have hS28 : Own w.heap.size w w25 ([some (vch b2 101 32 (fun i => .int .i64 (upto m (ow m D) i))), some (lch b1 37 [.slice ao m c, .slice ac m cc])]) := by first | exact hO27 | exact hO27.tail
        refine ⟨hS28, ?_⟩
        refine rh_any2 4 5 (by kernel_rfl) ?_ ?_
        · refine rc_op rfl rfl (ow_call2 callable_66 rfl rfl rfl rfl rfl (received_any ao m c D (.slice ac m cc) (upto m p) (upto m (ow m D)) _ hv (fun i i0 i1 => upto_in i0 i1) hup (h.later hO27.below)) (by intro e w' hp; obtain ⟨rfl, hb4⟩ := hp; exact ⟨_, rfl⟩)) ?_
          rintro _ w31 ⟨_, v29, he32, rfl, hp30⟩
          obtain ⟨rfl, hb4⟩ := hp30
          injection he32 with he32; subst he32
          have hO33 := hO27.past hb4
          have hS34 : Own w.heap.size w w31 ([some (vch b2 101 32 (fun i => .int .i64 (upto m (ow m D) i))), some (lch b1 37 [.slice ao m c, .slice ac m cc])]) := by first | exact hO33 | exact hO33.tail
          refine ⟨hS34, ?_⟩
          refine rh_any1 5 (by kernel_rfl) ?_
          refine rc_op rfl rfl (ow_allocA 32 rfl rfl rfl zero_101 rfl hO33) ?_
          rintro _ w35 ⟨b3, rfl, hO36, hs37⟩
          have hS38 : Own w.heap.size w w35 ([some (vch b2 101 32 (fun i => .int .i64 (upto m (ow m D) i))), some (lch b1 37 [.slice ao m c, .slice ac m cc])]) := by first | exact hO36 | exact hO36.tail
          refine ⟨hS38, ?_⟩
          refine rh_any1 6 (by kernel_rfl) ?_
          refine rc_op rfl rfl (ow_storeA rfl rfl (by kernel_rfl) hO36 0 rfl rfl rfl (fun _ => rfl)) ?_
          rintro _ w39 ⟨rfl, hO40, hs41⟩
          have hS42 : Own w.heap.size w w39 ([some (vch b2 101 32 (fun i => .int .i64 (upto m (ow m D) i))), some (lch b1 37 [.slice ao m c, .slice ac m cc])]) := by first | exact hO40 | exact hO40.tail
          refine ⟨hS42, ?_⟩
          refine rh_done (by kernel_rfl) ?_
          refine Run.use (hk19 (b3) _ ?_) (And.intro rfl (And.intro rfl (And.intro rfl (And.intro rfl trivial))))
          exact hO40
        · refine rc_op rfl rfl (ow_allocA 32 rfl rfl rfl zero_101 rfl hO27) ?_
          rintro _ w43 ⟨b3, rfl, hO44, hs45⟩
          have hS46 : Own w.heap.size w w43 ([some (vch b2 101 32 (fun i => .int .i64 (upto m (ow m D) i))), some (lch b1 37 [.slice ao m c, .slice ac m cc])]) := by first | exact hO44 | exact hO44.tail
          refine ⟨hS46, ?_⟩
          refine rh_any1 4 (by kernel_rfl) ?_
          refine rc_op rfl rfl (ow_call2 callable_66 rfl rfl rfl rfl rfl (received_any ao m c D (.slice ac m cc) (upto m p) (upto m (ow m D)) _ hv (fun i i0 i1 => upto_in i0 i1) hup (h.later hO44.below)) (by intro e w' hp; obtain ⟨rfl, hb4⟩ := hp; exact ⟨_, rfl⟩)) ?_
          rintro _ w49 ⟨_, v47, he50, rfl, hp48⟩
          obtain ⟨rfl, hb4⟩ := hp48
          injection he50 with he50; subst he50
          have hO51 := hO44.past hb4
          have hS52 : Own w.heap.size w w49 ([some (vch b2 101 32 (fun i => .int .i64 (upto m (ow m D) i))), some (lch b1 37 [.slice ao m c, .slice ac m cc])]) := by first | exact hO51 | exact hO51.tail
          refine ⟨hS52, ?_⟩
          refine rh_any1 6 (by kernel_rfl) ?_
          refine rc_op rfl rfl (ow_storeA rfl rfl (by kernel_rfl) hO51 0 rfl rfl rfl (fun _ => rfl)) ?_
          rintro _ w53 ⟨rfl, hO54, hs55⟩
          have hS56 : Own w.heap.size w w53 ([some (vch b2 101 32 (fun i => .int .i64 (upto m (ow m D) i))), some (lch b1 37 [.slice ao m c, .slice ac m cc])]) := by first | exact hO54 | exact hO54.tail
          refine ⟨hS56, ?_⟩
          refine rh_done (by kernel_rfl) ?_
          refine Run.use (hk19 (b3) _ ?_) (And.intro rfl (And.intro rfl (And.intro rfl (And.intro rfl trivial))))
          exact hO54
      · refine rc_op rfl rfl (ow_allocA 32 rfl rfl rfl zero_101 rfl hO21) ?_
        rintro _ w57 ⟨b3, rfl, hO58, hs59⟩
        have hS60 : Own w.heap.size w w57 ([some (vch b2 101 32 (fun i => .int .i64 (upto m (ow m D) i))), some (lch b1 37 [.slice ao m c, .slice ac m cc])]) := by first | exact hO58 | exact hO58.tail
        refine ⟨hS60, ?_⟩
        refine rh_any1 2 (by kernel_rfl) ?_
        refine rc_op rfl rfl (ow_call2 callable_67 rfl rfl rfl rfl rfl (rowOf_any bo m cb p _ hpos hle (h2.later hO58.below)) (by intro e w' hp; obtain ⟨rfl, hb2⟩ := hp; exact ⟨_, rfl⟩)) ?_
        rintro _ w63 ⟨_, v61, he64, rfl, hp62⟩
        obtain ⟨rfl, hb2⟩ := hp62
        injection he64 with he64; subst he64
        have hO65 := hO58.past hb2
        have hS66 : Own w.heap.size w w63 ([some (vch b2 101 32 (fun i => .int .i64 (upto m (ow m D) i))), some (lch b1 37 [.slice ao m c, .slice ac m cc])]) := by first | exact hO65 | exact hO65.tail
        refine ⟨hS66, ?_⟩
        refine rh_any1 4 (by kernel_rfl) ?_
        refine rc_op rfl rfl (ow_call2 callable_66 rfl rfl rfl rfl rfl (received_any ao m c D (.slice ac m cc) (upto m p) (upto m (ow m D)) _ hv (fun i i0 i1 => upto_in i0 i1) hup (h.later hO65.below)) (by intro e w' hp; obtain ⟨rfl, hb4⟩ := hp; exact ⟨_, rfl⟩)) ?_
        rintro _ w69 ⟨_, v67, he70, rfl, hp68⟩
        obtain ⟨rfl, hb4⟩ := hp68
        injection he70 with he70; subst he70
        have hO71 := hO65.past hb4
        have hS72 : Own w.heap.size w w69 ([some (vch b2 101 32 (fun i => .int .i64 (upto m (ow m D) i))), some (lch b1 37 [.slice ao m c, .slice ac m cc])]) := by first | exact hO71 | exact hO71.tail
        refine ⟨hS72, ?_⟩
        refine rh_any1 6 (by kernel_rfl) ?_
        refine rc_op rfl rfl (ow_storeA rfl rfl (by kernel_rfl) hO71 0 rfl rfl rfl (fun _ => rfl)) ?_
        rintro _ w73 ⟨rfl, hO74, hs75⟩
        have hS76 : Own w.heap.size w w73 ([some (vch b2 101 32 (fun i => .int .i64 (upto m (ow m D) i))), some (lch b1 37 [.slice ao m c, .slice ac m cc])]) := by first | exact hO74 | exact hO74.tail
        refine ⟨hS76, ?_⟩
        refine rh_done (by kernel_rfl) ?_
        refine Run.use (hk19 (b3) _ ?_) (And.intro rfl (And.intro rfl (And.intro rfl (And.intro rfl trivial))))
        exact hO74
    · intro b3 w18 hJw18
      have hO := hJw18
      show Run _ _ _ _ [(6, _), (1, _), (2, _), (5, _)] _ _
      refine run_seq ?_
      refine run_region ?_
      refine rl_ow rfl (ow_allocA 32 rfl rfl rfl zero_101 rfl hO) ?_
      rintro _ w77 ⟨b4, rfl, hO78, hs79⟩
      refine rl_nil ?_
      refine run_seq ?_
      refine run_seq ?_
      refine run_region ?_
      refine rl_v rfl rfl rfl (ov_fieldS rfl Try.underlying37 rfl (fo := 0) rfl (by kernel_rfl) rfl) ?_
      refine rl_v rfl rfl rfl (ov_load rfl Try.underlying22 rfl rfl (by first | exact hq _ hO78.below _ (by omega) (by omega) | exact hO78.cellI 0 rfl _ (by omega) (by omega) | exact hO78.cellL 0 rfl rfl | exact hO78.cellI 1 rfl _ (by omega) (by omega) | exact hO78.cellL 1 rfl rfl | exact hO78.cellI 2 rfl _ (by omega) (by omega) | exact hO78.cellL 2 rfl rfl | exact hO78.cellI 3 rfl _ (by omega) (by omega) | exact hO78.cellL 3 rfl rfl | exact hO78.cellI 4 rfl _ (by omega) (by omega) | exact hO78.cellL 4 rfl rfl | exact hO78.cellI 5 rfl _ (by omega) (by omega) | exact hO78.cellL 5 rfl rfl)) ?_
      refine rl_v rfl rfl rfl (ov_len rfl Try.underlying22 rfl) ?_
      refine rl_v rfl rfl rfl (ov_move rfl rfl) ?_
      refine rl_nil ?_
      refine run_block ?_
      refine Run.keep [1, 2, 5, 6, 7, 22, 23] (F' := [(1, _), (2, _), (5, _), (6, _), (7, _), (22, _), (23, _)]) rfl ?_
      refine run_loop2 (fun (k : Int) (g : Int → Int) => [(23, .int .i64 k)]) [1, 2, 5, 6, 7, 22] (fun (k : Int) (g : Int → Int) (w80 : World) => 0 ≤ k ∧ k ≤ m ∧ (∀ i : Int, 0 ≤ i → i < 32 → g i = if i < k then min (ow m D i) (cash i + rcv m D p i) else 0) ∧ Own w.heap.size w w80 [some (vch b4 101 32 (fun i => .int .i64 (g i))), some (vch b3 101 32 (fun i => .int .i64 (upto m (rcv m D (upto m p)) i))), some (vch b2 101 32 (fun i => .int .i64 (upto m (ow m D) i))), some (lch b1 37 [.slice ao m c, .slice ac m cc])]) (fun (k : Int) (g : Int → Int) => ((m : Int) - k).toNat) (0) (fun _ => 0) ?_ (And.intro (by first | with_reducible rfl | exact slot_int rfl (by first | omega) | rfl) (And.intro rfl (And.intro rfl (And.intro rfl (And.intro rfl (And.intro rfl (And.intro rfl trivial))))))) ?_
      · exact ⟨by omega, by omega, fun i i0 i1 => by rw [if_neg (by omega)], hO78⟩
      intro k g w80 hIw80 ih81
      obtain ⟨hk0, hk1, hg, hO⟩ := hIw80
      show Run _ _ _ _ [(23, _), (1, _), (2, _), (5, _), (6, _), (7, _), (22, _)] _ _
      refine run_seq ?_
      refine run_region ?_
      refine rl_v rfl rfl rfl (ov_lss rfl rfl rfl) ?_
      refine rl_nil ?_
      refine run_seq ?_
      first | refine run_cond_dec rfl (fun hkm => ?_) (fun hkm => ?_) | refine run_cond rfl (fun hkm => ?_) (fun hkm => ?_)
      · have hck := hc k hk0 hkm
        have hrr := rcv_rng hv p hp k
        have e1 : upto m (rcv m D (upto m p)) k = rcv m D p k := by rw [upto_in hk0 hkm, rcv_congr fun j j0 j1 => upto_in j0 j1]
        have e2 : upto m (ow m D) k = ow m D k := upto_in hk0 hkm
        refine run_skip ?_
        refine run_seq ?_
        refine run_block ?_
        refine run_seq ?_
        refine run_region ?_
        refine rl_v rfl rfl rfl (ov_move rfl rfl) ?_
        refine rl_v rfl rfl rfl (ov_assign rfl rfl) ?_
        refine rl_nil ?_
        refine run_tail 15 mixed (by kernel_rfl) ?_
        have hO83 := hO.drew
        generalize World.drew w80 = w82 at hO83 ⊢
        refine rt_v rfl rfl rfl (ov_move rfl rfl) ?_
        refine rt_v rfl rfl rfl (ov_move rfl rfl) ?_
        refine rt_v rfl rfl rfl (ov_indexA1 rfl Try.underlying101 (by kernel_rfl) rfl rfl ⟨by omega, by omega⟩) ?_
        refine rt_v rfl rfl rfl (ov_load rfl Try.underlying2 rfl rfl (by first | exact hq _ hO83.below _ (by omega) (by omega) | exact hO83.cellI 0 rfl _ (by omega) (by omega) | exact hO83.cellL 0 rfl rfl | exact hO83.cellI 1 rfl _ (by omega) (by omega) | exact hO83.cellL 1 rfl rfl | exact hO83.cellI 2 rfl _ (by omega) (by omega) | exact hO83.cellL 2 rfl rfl | exact hO83.cellI 3 rfl _ (by omega) (by omega) | exact hO83.cellL 3 rfl rfl | exact hO83.cellI 4 rfl _ (by omega) (by omega) | exact hO83.cellL 4 rfl rfl | exact hO83.cellI 5 rfl _ (by omega) (by omega) | exact hO83.cellL 5 rfl rfl)) ?_
        refine rt_v rfl rfl rfl (ov_fieldS rfl Try.underlying37 rfl (fo := 1) rfl (by kernel_rfl) rfl) ?_
        refine rt_v rfl rfl rfl (ov_load rfl Try.underlying23 rfl rfl (by first | exact hq _ hO83.below _ (by omega) (by omega) | exact hO83.cellI 0 rfl _ (by omega) (by omega) | exact hO83.cellL 0 rfl rfl | exact hO83.cellI 1 rfl _ (by omega) (by omega) | exact hO83.cellL 1 rfl rfl | exact hO83.cellI 2 rfl _ (by omega) (by omega) | exact hO83.cellL 2 rfl rfl | exact hO83.cellI 3 rfl _ (by omega) (by omega) | exact hO83.cellL 3 rfl rfl | exact hO83.cellI 4 rfl _ (by omega) (by omega) | exact hO83.cellL 4 rfl rfl | exact hO83.cellI 5 rfl _ (by omega) (by omega) | exact hO83.cellL 5 rfl rfl)) ?_
        refine rt_v rfl rfl rfl (ov_move rfl rfl) ?_
        refine rt_v rfl rfl rfl (ov_index1 rfl Try.underlying23 (by kernel_rfl) rfl rfl ⟨by omega, by omega⟩ (by first | rfl | exact hqa (by omega))) ?_
        refine rt_v rfl rfl rfl (ov_load rfl Try.underlying2 rfl rfl (by first | exact hq _ hO83.below _ (by omega) (by omega) | exact hO83.cellI 0 rfl _ (by omega) (by omega) | exact hO83.cellL 0 rfl rfl | exact hO83.cellI 1 rfl _ (by omega) (by omega) | exact hO83.cellL 1 rfl rfl | exact hO83.cellI 2 rfl _ (by omega) (by omega) | exact hO83.cellL 2 rfl rfl | exact hO83.cellI 3 rfl _ (by omega) (by omega) | exact hO83.cellL 3 rfl rfl | exact hO83.cellI 4 rfl _ (by omega) (by omega) | exact hO83.cellL 4 rfl rfl | exact hO83.cellI 5 rfl _ (by omega) (by omega) | exact hO83.cellL 5 rfl rfl)) ?_
        refine rt_v rfl rfl rfl (ov_move rfl rfl) ?_
        refine rt_v rfl rfl rfl (ov_indexA1 rfl Try.underlying101 (by kernel_rfl) rfl rfl ⟨by omega, by omega⟩) ?_
        refine rt_v rfl rfl rfl (ov_load rfl Try.underlying2 rfl rfl (by first | exact hq _ hO83.below _ (by omega) (by omega) | exact hO83.cellI 0 rfl _ (by omega) (by omega) | exact hO83.cellL 0 rfl rfl | exact hO83.cellI 1 rfl _ (by omega) (by omega) | exact hO83.cellL 1 rfl rfl | exact hO83.cellI 2 rfl _ (by omega) (by omega) | exact hO83.cellL 2 rfl rfl | exact hO83.cellI 3 rfl _ (by omega) (by omega) | exact hO83.cellL 3 rfl rfl | exact hO83.cellI 4 rfl _ (by omega) (by omega) | exact hO83.cellL 4 rfl rfl | exact hO83.cellI 5 rfl _ (by omega) (by omega) | exact hO83.cellL 5 rfl rfl)) ?_
        refine rt_v rfl rfl rfl (ov_add rfl rfl rfl (by omega)) ?_
        refine rt_v rfl rfl rfl (ov_min rfl rfl rfl) ?_
        refine rt_v rfl rfl rfl (ov_indexA1 rfl Try.underlying101 (by kernel_rfl) rfl rfl ⟨by omega, by omega⟩) ?_
        refine rt_nil ?_
        refine rl_ow rfl (ow_storeI rfl rfl (by kernel_rfl) hO83 0 rfl rfl ⟨by omega, by omega⟩ rfl) ?_
        rintro _ w84 ⟨rfl, hO85, hs86⟩
        refine rl_nil ?_
        refine run_inBlock ?_
        refine run_region ?_
        refine rl_v rfl rfl rfl (ov_add rfl rfl rfl (by omega)) ?_
        refine rl_v rfl rfl rfl (ov_move rfl rfl) ?_
        refine rl_nil ?_
        refine Run.use (ih81 (k + 1) (upd g k (min (upto m (ow m D) k) (cash k + upto m (rcv m D (upto m p)) k))) _ ?_ ?_) (And.intro (by first | with_reducible rfl | exact slot_int rfl (by first | omega) | rfl) (And.intro rfl (And.intro rfl (And.intro rfl (And.intro rfl (And.intro rfl (And.intro rfl trivial)))))))
        · first | omega | (dsimp only; omega)
        · exact ⟨by omega, by omega, fun i i0 i1 => by unfold upd; split; (rename_i e; rw [e, if_pos (by omega), e1, e2]); (rename_i e; rw [hg i i0 i1]; split <;> split <;> first | rfl | omega), hO85⟩
      · obtain rfl : k = m := by omega
        have hiff : (∀ j, j < 32 → g ((j : Nat) : Int) = upto m p ((j : Nat) : Int)) ↔ Clg m D cash m p := by
          constructor
          · intro hj
            refine ⟨rfl, hp, fun i i0 i1 => ?_⟩
            have := hj i.toNat (by omega)
            rw [Int.toNat_of_nonneg i0, hg i i0 (by omega), if_pos i1, upto_in i0 i1] at this
            exact this.symm
          · intro hcl j hj
            rw [hg j (by omega) (by omega)]
            by_cases hjm : (j : Int) < m
            · rw [if_pos hjm, upto_in (by omega) hjm]; exact (hcl.2.2 j (by omega) hjm).symm
            · rw [if_neg hjm, upto_out (by omega)]
        refine run_exit rfl ?_
        refine run_seq ?_
        refine run_held (fun w' => Own w.heap.size w w' ([some (vch b4 101 32 (fun i => .int .i64 (g i))), some (vch b3 101 32 (fun i => .int .i64 (upto m (rcv m D (upto m p)) i))), some (vch b2 101 32 (fun i => .int .i64 (upto m (ow m D) i))), some (lch b1 37 [.slice ao m c, .slice ac m cc])])) mixed ?_
        have hO88 := hO.drew
        generalize World.drew w80 = w87 at hO88 ⊢
        have hS89 : Own w.heap.size w w87 ([some (vch b4 101 32 (fun i => .int .i64 (g i))), some (vch b3 101 32 (fun i => .int .i64 (upto m (rcv m D (upto m p)) i))), some (vch b2 101 32 (fun i => .int .i64 (upto m (ow m D) i))), some (lch b1 37 [.slice ao m c, .slice ac m cc])]) := by exact hO88
        refine rh_v 0 rfl (by kernel_rfl) rfl rfl rfl hS89 (fun _ hS => ov_loadA rfl Try.underlying101 rfl (by kernel_rfl) rfl hS 0 rfl) ?_
        refine rh_v 1 rfl (by kernel_rfl) rfl rfl rfl hS89 (fun _ hS => ov_move rfl rfl) ?_
        refine rh_any1 2 (by kernel_rfl) ?_
        refine rc_op rfl rfl (ow_call2 callable_67 rfl rfl rfl rfl rfl (rowOf_any bo m cb p _ hpos hle (h2.later hO88.below)) (by intro e w' hp; obtain ⟨rfl, hb2⟩ := hp; exact ⟨_, rfl⟩)) ?_
        rintro _ w92 ⟨_, v90, he93, rfl, hp91⟩
        obtain ⟨rfl, hb2⟩ := hp91
        injection he93 with he93; subst he93
        have hO94 := hO88.past hb2
        have hS95 : Own w.heap.size w w92 ([some (vch b4 101 32 (fun i => .int .i64 (g i))), some (vch b3 101 32 (fun i => .int .i64 (upto m (rcv m D (upto m p)) i))), some (vch b2 101 32 (fun i => .int .i64 (upto m (ow m D) i))), some (lch b1 37 [.slice ao m c, .slice ac m cc])]) := by exact hO94
        refine ⟨hS95, ?_⟩
        refine rh_v 3 rfl (by kernel_rfl) rfl rfl rfl hS95 (fun _ hS => ov_eqlA rfl Try.underlying101 Try.underlying2 (by kernel_rfl) (by kernel_rfl) (by kernel_rfl) rfl rfl) ?_
        refine rh_v 4 rfl (by kernel_rfl) rfl rfl rfl hS95 (fun _ hS => ov_assign rfl rfl) ?_
        refine rh_done (by kernel_rfl) ?_
        refine run_ret Try.func25 (res1 Try.results25 rfl) ?_
        exact ⟨⟨_, rfl, by rw [decide_eq_true_iff]; exact hiff⟩, hO94.below⟩
end Go.Proofs.Ytiambddcpflkhaa
