/- Crises: the reference's Clearing, All, Greatest; the program's arePayments, rowOf, Received, IsClearing. -/
import Derived.Test.YtiambddcpflkhaaNetN
import Derived.Test.YtiambddcpflkhaaNetK
set_option maxRecDepth 100000
namespace Go.Proofs.Ytiambddcpflkhaa
open Go.RowKit Go.Proofs

theorem Valid.chkCr {n : Nat} {D : Int → Int → Int} (hv : Valid n D) {cash : Int → Int} (hc : ∀ i : Int, 0 ≤ i → i < n → 0 ≤ cash i ∧ cash i ≤ 1000000) : chkC n (fun _ => n) D n cash = 0 := by
  unfold chkC
  rw [if_neg (by rw [hv.chk]; simp), if_neg (by omega), if_neg]
  rintro ⟨i, i0, i1, hx⟩
  have := hc i i0 i1
  omega

theorem refAll_any (n : Nat) (w : World) (hn : n ≤ 32) :
    Calls Try.prog 29 #[.int .i64 n] w fun e w' => ∃ b, e = .returned (.slice (some ⟨b, 0, none⟩) n n) ∧ Own w.heap.size w w' [some (vch b 4 n (fun _ => .bool true))] := by
  refine calls_of_run (F := [(0, _)]) Try.func29 rfl Try.ntmps29 rfl rfl ?_
  have hO0 := Own.init w
  refine run_seq ?_
  refine run_region ?_
  refine rl_v rfl rfl rfl (ov_assign rfl rfl) ?_
  refine rl_nil ?_
  refine run_seq ?_
  refine run_region ?_
  refine rl_v rfl rfl rfl (ov_move rfl rfl) ?_
  refine rl_make (n) rfl rfl rfl rfl Try.underlying48 info_4 rfl hO0 rfl rfl (by first | rfl | omega) (by first | rfl | omega) ⟨by omega, by omega⟩ (fun b w1 hO2 hs3 => ?_)
  refine rl_v rfl rfl rfl (ov_assign rfl rfl) ?_
  refine rl_nil ?_
  refine run_seq ?_
  refine run_seq ?_
  refine run_region ?_
  refine rl_v rfl rfl rfl (ov_assign rfl rfl) ?_
  refine rl_nil ?_
  refine run_block ?_
  refine Run.keep [0, 3, 4] (F' := [(0, _), (3, _), (4, _)]) rfl ?_
  refine run_loop2 (fun (k : Int) (g : Int → Bool) => [(4, .int .i64 k)]) [0, 3] (fun (k : Int) (g : Int → Bool) (w4 : World) => 0 ≤ k ∧ k ≤ n ∧ (∀ i : Int, 0 ≤ i → i < k → g i = true) ∧ Own w.heap.size w w4 [some (vch b 4 n (fun i => .bool (g i)))]) (fun (k : Int) (g : Int → Bool) => ((n : Int) - k).toNat) (0) (fun _ => false) ?_ (And.intro (by first | with_reducible rfl | exact slot_int rfl (by first | omega) | rfl) (And.intro rfl (And.intro rfl trivial))) ?_
  · exact ⟨by omega, by omega, fun i i0 i1 => by omega, hO2⟩
  intro k g w4 hIw4 ih5
  obtain ⟨hk0, hk1, hg, hO⟩ := hIw4
  show Run _ _ _ _ [(4, _), (0, _), (3, _)] _ _
  refine run_seq ?_
  refine run_seq ?_
  refine run_region ?_
  refine rl_v rfl rfl rfl (ov_move rfl rfl) ?_
  refine rl_v rfl rfl rfl (ov_move rfl rfl) ?_
  refine rl_v rfl rfl rfl (ov_lss rfl rfl rfl) ?_
  refine rl_nil ?_
  first | refine run_cond_dec rfl (fun h1 => ?_) (fun h1 => ?_) | refine run_cond rfl (fun h1 => ?_) (fun h1 => ?_)
  · refine run_skip ?_
    refine run_seq ?_
    refine run_block ?_
    refine run_region ?_
    refine rl_v rfl rfl rfl (ov_move rfl rfl) ?_
    refine rl_v rfl rfl rfl (ov_move rfl rfl) ?_
    refine rl_v rfl rfl rfl (ov_index1 rfl Try.underlying48 (by kernel_rfl) rfl rfl ⟨by omega, by omega⟩ rfl) ?_
    first | refine rl_storeB rfl rfl rfl (by kernel_rfl) hO 0 rfl rfl ⟨by omega, by omega⟩ rfl (fun w6 hO7 hs8 => ?_)
    refine rl_nil ?_
    refine run_inBlock ?_
    refine run_region ?_
    refine rl_v rfl rfl rfl (ov_move rfl rfl) ?_
    refine rl_v rfl rfl rfl (ov_add rfl rfl rfl (by omega)) ?_
    refine rl_v rfl rfl rfl (ov_assign rfl rfl) ?_
    refine rl_nil ?_
    refine Run.use (ih5 (k + 1) (upd g k true) _ ?_ ?_) (And.intro (by first | with_reducible rfl | exact slot_int rfl (by first | omega) | rfl) (And.intro rfl (And.intro rfl trivial)))
    · first | omega | (dsimp only; omega)
    · exact ⟨by omega, by omega, fun i i0 i1 => by unfold upd; split; rfl; exact hg i i0 (by omega), hO7⟩
  · refine run_exit rfl ?_
    refine run_seq ?_
    refine run_region ?_
    refine rl_v rfl rfl rfl (ov_move rfl rfl) ?_
    refine rl_v rfl rfl rfl (ov_assign rfl rfl) ?_
    refine rl_nil ?_
    refine run_ret Try.func29 (res1 Try.results29 rfl) ?_
    exact ⟨b, rfl, hO.congrI 0 rfl (fun i i0 i1 => by rw [hg i i0 (by omega)])⟩

theorem refClearing_any (ao ac bo : Option Addr) (n c cc m cb : Nat) (D : Int → Int → Int) (cash p : Int → Int) (w : World) (hv : Valid n D) (hc : ∀ i : Int, 0 ≤ i → i < n → 0 ≤ cash i ∧ cash i ≤ 1000000) (hm : m ≤ 1000000)
    (h : ITab w.heap.size w ao n (fun _ => n) (fun r c => .int .i64 (D r c))) (hC : IAt w.heap.size w ac n (fun i => .int .i64 (cash i))) (h2 : IAt w.heap.size w bo m (fun i => .int .i64 (p i))) :
    Calls Try.prog 26 #[.agg [.slice ao n c, .slice ac n cc].toArray, .slice bo m cb] w fun e w' => (∃ b, e = .returned (.bool b) ∧ (b = true ↔ Clg n D cash m p)) ∧ Below w.heap.size w w' := by
  obtain ⟨qb, qo, hqa, hq⟩ := h2.open
  obtain ⟨cb', co, hca, hcash⟩ := hC.open
  have hle := hv.le
  have hpos := hv.pos
  refine calls_of_run (F := [(0, _), (1, _)]) Try.func26 rfl Try.ntmps26 rfl rfl ?_
  have hO0 := Own.init w
  refine run_seq ?_
  refine run_region ?_
  refine rl_ow rfl (ow_box _ rfl rfl rfl rfl rfl hO0) ?_
  rintro _ w1 ⟨b1, rfl, hO2, hs3⟩
  refine rl_v rfl rfl rfl (ov_assign rfl rfl) ?_
  refine rl_nil ?_
  refine run_seq ?_
  refine run_seq ?_
  refine run_region ?_
  refine rl_v rfl rfl rfl (ov_loadW rfl Try.underlying35 rfl (by kernel_rfl) rfl hO2 0 rfl) ?_
  refine rl_call callable_55 rfl rfl rfl rfl rfl rfl (refCheckCrisis_any ao ac n c n cc (fun _ => n) D cash _ (by omega) (by omega) (h.later hO2.below) (hC.later hO2.below)) (fun e4 w5 hp6 => ?_)
  obtain ⟨rfl, hb⟩ := hp6
  refine ⟨_, rfl, ?_⟩
  have hO7 := hO2.past hb
  rw [hv.chkCr hc]
  refine rl_v rfl rfl rfl (ov_neq rfl rfl rfl) ?_
  refine rl_v rfl rfl rfl (ov_move rfl rfl) ?_
  first | refine rl_split_dec 11 rfl (fun hg => ?_) (fun hg => ?_) | refine rl_split 11 rfl (fun hg => ?_) (fun hg => ?_)
  · refine rl_gskip rfl rfl rfl rfl rfl rfl ?_
    refine rl_gskip rfl rfl rfl rfl rfl rfl ?_
    refine rl_gskip rfl rfl rfl rfl rfl rfl ?_
    refine rl_gskip rfl rfl rfl rfl rfl rfl ?_
    refine rl_v rfl rfl rfl (ov_pick_t rfl rfl rfl) ?_
    refine rl_nil ?_
    refine run_cond_t rfl ?_
    exfalso; exact hg rfl
  · refine rl_gv rfl rfl rfl rfl rfl (ov_loadW rfl Try.underlying35 rfl (by kernel_rfl) rfl hO7 0 rfl) ?_
    refine rl_gv rfl rfl rfl rfl rfl (ov_move rfl rfl) ?_
    refine rl_gcall callable_22 rfl rfl rfl rfl rfl rfl rfl rfl (refPaid_any ao bo n c m cb D (.slice ac n cc) p _ hv (h.later hO7.below) (h2.later hO7.below)) (fun e9 w10 hp11 => ?_)
    obtain ⟨⟨pb, rfl, hpb⟩, hb2⟩ := hp11
    refine ⟨_, rfl, ?_⟩
    have hO12 := hO7.past hb2
    refine rl_gv rfl rfl rfl rfl rfl (ov_not rfl rfl) ?_
    refine rl_v rfl rfl rfl (ov_pick_f rfl rfl rfl) ?_
    refine rl_nil ?_
    first | refine run_cond_dec rfl (fun hp2 => ?_) (fun hp2 => ?_) | refine run_cond rfl (fun hp2 => ?_) (fun hp2 => ?_)
    · refine run_seq ?_
      refine run_region ?_
      refine rl_v rfl rfl rfl (ov_assign rfl rfl) ?_
      refine rl_nil ?_
      refine run_ret Try.func26 (res1 Try.results26 rfl) ?_
      exact ⟨⟨false, rfl, ⟨fun h => Bool.noConfusion h, fun h => by rw [hpb.2 ⟨h.1, h.2.1⟩] at hp2; cases hp2⟩⟩, hO12.below⟩
    · have hpt : pb = true := by cases pb; exact absurd hp2 (by decide); rfl
      obtain ⟨hmn, hrng⟩ := hpb.1 hpt
      subst hmn
      refine run_skip ?_
      refine run_seq ?_
      refine run_region ?_
      refine rl_v rfl rfl rfl (ov_fieldS rfl Try.underlying35 rfl (fo := 0) rfl (by kernel_rfl) rfl) ?_
      refine rl_v rfl rfl rfl (ov_load rfl Try.underlying22 rfl rfl (by first | exact hO12.cellI 0 rfl _ (by omega) (by omega) | exact hO12.cellL 0 rfl rfl | exact hO12.cellI 1 rfl _ (by omega) (by omega) | exact hO12.cellL 1 rfl rfl | exact hO12.cellI 2 rfl _ (by omega) (by omega) | exact hO12.cellL 2 rfl rfl | exact hO12.cellI 3 rfl _ (by omega) (by omega) | exact hO12.cellL 3 rfl rfl | exact hO12.cellI 4 rfl _ (by omega) (by omega) | exact hO12.cellL 4 rfl rfl | exact hO12.cellI 5 rfl _ (by omega) (by omega) | exact hO12.cellL 5 rfl rfl)) ?_
      refine rl_call callable_27 rfl rfl rfl rfl rfl rfl (refOwes_any ao m c D _ hv (h.later hO12.below)) (fun e13 w14 hp15 => ?_)
      obtain ⟨b2, rfl, hOc⟩ := hp15
      refine ⟨_, rfl, ?_⟩
      have hO16 := hO12.join hOc
      refine rl_v rfl rfl rfl (ov_assign rfl rfl) ?_
      refine rl_nil ?_
      refine run_seq ?_
      refine run_region ?_
      refine rl_v rfl rfl rfl (ov_fieldS rfl Try.underlying35 rfl (fo := 0) rfl (by kernel_rfl) rfl) ?_
      refine rl_v rfl rfl rfl (ov_load rfl Try.underlying22 rfl rfl (by first | exact hO16.cellI 0 rfl _ (by omega) (by omega) | exact hO16.cellL 0 rfl rfl | exact hO16.cellI 1 rfl _ (by omega) (by omega) | exact hO16.cellL 1 rfl rfl | exact hO16.cellI 2 rfl _ (by omega) (by omega) | exact hO16.cellL 2 rfl rfl | exact hO16.cellI 3 rfl _ (by omega) (by omega) | exact hO16.cellL 3 rfl rfl | exact hO16.cellI 4 rfl _ (by omega) (by omega) | exact hO16.cellL 4 rfl rfl | exact hO16.cellI 5 rfl _ (by omega) (by omega) | exact hO16.cellL 5 rfl rfl)) ?_
      refine rl_v rfl rfl rfl (ov_move rfl rfl) ?_
      refine rl_call callable_24 rfl rfl rfl rfl rfl rfl (refReceived_any ao bo m c m cb D p _ hv (Nat.le_refl _) hrng (h.later hO16.below) (h2.later hO16.below)) (fun e17 w18 hp19 => ?_)
      obtain ⟨b3, rfl, hOd⟩ := hp19
      refine ⟨_, rfl, ?_⟩
      have hO20 := hO16.join hOd
      refine rl_v rfl rfl rfl (ov_assign rfl rfl) ?_
      refine rl_nil ?_
      refine run_seq ?_
      refine run_seq ?_
      refine run_region ?_
      refine rl_v rfl rfl rfl (ov_assign rfl rfl) ?_
      refine rl_nil ?_
      refine run_block ?_
      refine Run.keep [1, 2, 5, 6, 7] (F' := [(1, _), (2, _), (5, _), (6, _), (7, _)]) rfl ?_
      refine run_loop1 (fun (k : Int) => [(7, .int .i64 k)]) [1, 2, 5, 6] (fun (k : Int) (w21 : World) => 0 ≤ k ∧ k ≤ m ∧ (∀ i : Int, 0 ≤ i → i < k → p i = min (ow m D i) (cash i + rcv m D p i)) ∧ Own w.heap.size w w21 [some (vch b3 2 m (fun i => .int .i64 (rcv m D p i))), some (vch b2 2 m (fun i => .int .i64 (ow m D i))), some (lch b1 35 [.slice ao m c, .slice ac m cc])]) (fun (k : Int) => ((m : Int) - k).toNat) (0) ?_ (And.intro (by first | with_reducible rfl | exact slot_int rfl (by first | omega) | rfl) (And.intro rfl (And.intro rfl (And.intro rfl (And.intro rfl trivial))))) ?_
      · exact ⟨by omega, by omega, fun i i0 i1 => by omega, hO20⟩
      intro k w21 hIw21 ih22
      obtain ⟨hk0, hk1, hall, hO⟩ := hIw21
      show Run _ _ _ _ [(7, _), (1, _), (2, _), (5, _), (6, _)] _ _
      refine run_seq ?_
      refine run_seq ?_
      refine run_region ?_
      refine rl_v rfl rfl rfl (ov_move rfl rfl) ?_
      refine rl_v rfl rfl rfl (ov_move rfl rfl) ?_
      refine rl_v rfl rfl rfl (ov_len rfl Try.underlying23 rfl) ?_
      refine rl_v rfl rfl rfl (ov_lss rfl rfl rfl) ?_
      refine rl_nil ?_
      first | refine run_cond_dec rfl (fun h3 => ?_) (fun h3 => ?_) | refine run_cond rfl (fun h3 => ?_) (fun h3 => ?_)
      · have hck := hc k hk0 h3
        have hrr := rcv_rng hv p hrng k
        refine run_skip ?_
        refine run_seq ?_
        refine run_block ?_
        refine run_seq ?_
        refine run_quiet mixed (by kernel_rfl) ?_
        refine rq_v rfl rfl rfl (fun _ => ov_move rfl rfl) ?_
        refine rq_v rfl rfl rfl (fun _ => ov_move rfl rfl) ?_
        refine rq_v rfl rfl rfl (fun _ => ov_index1 rfl Try.underlying23 (by kernel_rfl) rfl rfl ⟨by omega, by omega⟩ (by first | rfl | exact hqa (by omega) | exact hca (by omega))) ?_
        refine rq_v rfl rfl rfl (fun _ => ov_load rfl Try.underlying2 rfl rfl (by show World.cell? w21 _ = _; first | exact hq _ hO.below _ (by omega) (by omega) | exact hcash _ hO.below _ (by omega) (by omega) | exact hO.cellI 0 rfl _ (by omega) (by omega) | exact hO.cellL 0 rfl rfl | exact hO.cellI 1 rfl _ (by omega) (by omega) | exact hO.cellL 1 rfl rfl | exact hO.cellI 2 rfl _ (by omega) (by omega) | exact hO.cellL 2 rfl rfl | exact hO.cellI 3 rfl _ (by omega) (by omega) | exact hO.cellL 3 rfl rfl | exact hO.cellI 4 rfl _ (by omega) (by omega) | exact hO.cellL 4 rfl rfl | exact hO.cellI 5 rfl _ (by omega) (by omega) | exact hO.cellL 5 rfl rfl)) ?_
        refine rq_v rfl rfl rfl (fun _ => ov_move rfl rfl) ?_
        refine rq_v rfl rfl rfl (fun _ => ov_move rfl rfl) ?_
        refine rq_v rfl rfl rfl (fun _ => ov_index1 rfl Try.underlying23 (by kernel_rfl) rfl rfl ⟨by omega, by omega⟩ (by first | rfl | exact hqa (by omega) | exact hca (by omega))) ?_
        refine rq_v rfl rfl rfl (fun _ => ov_load rfl Try.underlying2 rfl rfl (by show World.cell? w21 _ = _; first | exact hq _ hO.below _ (by omega) (by omega) | exact hcash _ hO.below _ (by omega) (by omega) | exact hO.cellI 0 rfl _ (by omega) (by omega) | exact hO.cellL 0 rfl rfl | exact hO.cellI 1 rfl _ (by omega) (by omega) | exact hO.cellL 1 rfl rfl | exact hO.cellI 2 rfl _ (by omega) (by omega) | exact hO.cellL 2 rfl rfl | exact hO.cellI 3 rfl _ (by omega) (by omega) | exact hO.cellL 3 rfl rfl | exact hO.cellI 4 rfl _ (by omega) (by omega) | exact hO.cellL 4 rfl rfl | exact hO.cellI 5 rfl _ (by omega) (by omega) | exact hO.cellL 5 rfl rfl)) ?_
        refine rq_v rfl rfl rfl (fun _ => ov_fieldS rfl Try.underlying35 rfl (fo := 1) rfl (by kernel_rfl) rfl) ?_
        refine rq_v rfl rfl rfl (fun _ => ov_load rfl Try.underlying23 rfl rfl (by show World.cell? w21 _ = _; first | exact hq _ hO.below _ (by omega) (by omega) | exact hcash _ hO.below _ (by omega) (by omega) | exact hO.cellI 0 rfl _ (by omega) (by omega) | exact hO.cellL 0 rfl rfl | exact hO.cellI 1 rfl _ (by omega) (by omega) | exact hO.cellL 1 rfl rfl | exact hO.cellI 2 rfl _ (by omega) (by omega) | exact hO.cellL 2 rfl rfl | exact hO.cellI 3 rfl _ (by omega) (by omega) | exact hO.cellL 3 rfl rfl | exact hO.cellI 4 rfl _ (by omega) (by omega) | exact hO.cellL 4 rfl rfl | exact hO.cellI 5 rfl _ (by omega) (by omega) | exact hO.cellL 5 rfl rfl)) ?_
        refine rq_v rfl rfl rfl (fun _ => ov_move rfl rfl) ?_
        refine rq_v rfl rfl rfl (fun _ => ov_index1 rfl Try.underlying23 (by kernel_rfl) rfl rfl ⟨by omega, by omega⟩ (by first | rfl | exact hqa (by omega) | exact hca (by omega))) ?_
        refine rq_v rfl rfl rfl (fun _ => ov_load rfl Try.underlying2 rfl rfl (by show World.cell? w21 _ = _; first | exact hq _ hO.below _ (by omega) (by omega) | exact hcash _ hO.below _ (by omega) (by omega) | exact hO.cellI 0 rfl _ (by omega) (by omega) | exact hO.cellL 0 rfl rfl | exact hO.cellI 1 rfl _ (by omega) (by omega) | exact hO.cellL 1 rfl rfl | exact hO.cellI 2 rfl _ (by omega) (by omega) | exact hO.cellL 2 rfl rfl | exact hO.cellI 3 rfl _ (by omega) (by omega) | exact hO.cellL 3 rfl rfl | exact hO.cellI 4 rfl _ (by omega) (by omega) | exact hO.cellL 4 rfl rfl | exact hO.cellI 5 rfl _ (by omega) (by omega) | exact hO.cellL 5 rfl rfl)) ?_
        refine rq_v rfl rfl rfl (fun _ => ov_move rfl rfl) ?_
        refine rq_v rfl rfl rfl (fun _ => ov_move rfl rfl) ?_
        refine rq_v rfl rfl rfl (fun _ => ov_index1 rfl Try.underlying23 (by kernel_rfl) rfl rfl ⟨by omega, by omega⟩ (by first | rfl | exact hqa (by omega) | exact hca (by omega))) ?_
        refine rq_v rfl rfl rfl (fun _ => ov_load rfl Try.underlying2 rfl rfl (by show World.cell? w21 _ = _; first | exact hq _ hO.below _ (by omega) (by omega) | exact hcash _ hO.below _ (by omega) (by omega) | exact hO.cellI 0 rfl _ (by omega) (by omega) | exact hO.cellL 0 rfl rfl | exact hO.cellI 1 rfl _ (by omega) (by omega) | exact hO.cellL 1 rfl rfl | exact hO.cellI 2 rfl _ (by omega) (by omega) | exact hO.cellL 2 rfl rfl | exact hO.cellI 3 rfl _ (by omega) (by omega) | exact hO.cellL 3 rfl rfl | exact hO.cellI 4 rfl _ (by omega) (by omega) | exact hO.cellL 4 rfl rfl | exact hO.cellI 5 rfl _ (by omega) (by omega) | exact hO.cellL 5 rfl rfl)) ?_
        refine rq_v rfl rfl rfl (fun _ => ov_add rfl rfl rfl (by omega)) ?_
        refine rq_v rfl rfl rfl (fun _ => ov_min rfl rfl rfl) ?_
        refine rq_v rfl rfl rfl (fun _ => ov_neq rfl rfl rfl) ?_
        refine rq_nil (fun n23 => ?_)
        have hO25 := hO.drewN n23
        generalize World.drewN w21 n23 = w24 at hO25 ⊢
        first | refine run_cond_dec rfl (fun h4 => ?_) (fun h4 => ?_) | refine run_cond rfl (fun h4 => ?_) (fun h4 => ?_)
        · refine run_seq ?_
          refine run_region ?_
          refine rl_v rfl rfl rfl (ov_assign rfl rfl) ?_
          refine rl_nil ?_
          refine run_ret Try.func26 (res1 Try.results26 rfl) ?_
          exact ⟨⟨false, rfl, ⟨fun h => Bool.noConfusion h, fun h => absurd (h.2.2 k hk0 h3) h4⟩⟩, hO25.below⟩
        · refine run_skip ?_
          refine run_inBlock ?_
          refine run_region ?_
          refine rl_v rfl rfl rfl (ov_move rfl rfl) ?_
          refine rl_v rfl rfl rfl (ov_add rfl rfl rfl (by omega)) ?_
          refine rl_v rfl rfl rfl (ov_assign rfl rfl) ?_
          refine rl_nil ?_
          refine Run.use (ih22 _ _ ?_ ?_) (And.intro (by first | with_reducible rfl | exact slot_int rfl (by first | omega) | rfl) (And.intro rfl (And.intro rfl (And.intro rfl (And.intro rfl trivial)))))
          · first | omega | (dsimp only; omega)
          · exact ⟨by omega, by omega, fun i h0 h1' => (by omega : i = k ∨ i < k).elim (fun e => by rw [e]; exact Classical.not_not.1 h4) (fun e => hall i h0 e), hO25⟩
      · refine run_exit rfl ?_
        refine run_seq ?_
        refine run_region ?_
        refine rl_v rfl rfl rfl (ov_assign rfl rfl) ?_
        refine rl_nil ?_
        refine run_ret Try.func26 (res1 Try.results26 rfl) ?_
        exact ⟨⟨true, rfl, ⟨fun _ => ⟨rfl, hrng, fun i h0 h1' => hall i h0 (by omega)⟩, fun _ => rfl⟩⟩, hO.below⟩

theorem refGreatest_any (ao ac ai : Option Addr) (n c cc ci : Nat) (D : Int → Int → Int) (cash : Int → Int) (inn : Int → Bool) (w : World) (hv : Valid n D) (hc : ∀ i : Int, 0 ≤ i → i < n → 0 ≤ cash i ∧ cash i ≤ 1000000000)
    (h : ITab w.heap.size w ao n (fun _ => n) (fun r c => .int .i64 (D r c))) (hC : IAt w.heap.size w ac n (fun i => .int .i64 (cash i))) (hN : IAt w.heap.size w ai n (fun i => .bool (inn i))) :
    Calls Try.prog 28 #[.agg [.slice ao n c, .slice ac n cc].toArray, .slice ai n ci] w fun e w' => ∃ p v c', e = .returned v ∧ Clr n D cash inn p ∧ IRow v 2 n (fun i => .int .i64 (p i)) c' ∧ Own w.heap.size w w' [c'] := by
  have hle := hv.le
  have hpos := hv.pos
  have hc0 : ∀ i : Int, 0 ≤ i → i < n → 0 ≤ cash i := fun i i0 i1 => (hc i i0 i1).1
  obtain ⟨cb', co, hca, hcash⟩ := hC.open
  obtain ⟨nb', no, hna, hinn⟩ := hN.open
  refine calls_of_run (F := [(0, _), (1, _)]) Try.func28 rfl Try.ntmps28 rfl rfl ?_
  have hO0 := Own.init w
  refine run_seq ?_
  refine run_region ?_
  refine rl_ow rfl (ow_box _ rfl rfl rfl rfl rfl hO0) ?_
  rintro _ w1 ⟨b1, rfl, hO2, hs3⟩
  refine rl_v rfl rfl rfl (ov_assign rfl rfl) ?_
  refine rl_nil ?_
  refine run_seq ?_
  refine run_region ?_
  refine rl_v rfl rfl rfl (ov_fieldS rfl Try.underlying35 rfl (fo := 0) rfl (by kernel_rfl) rfl) ?_
  refine rl_v rfl rfl rfl (ov_load rfl Try.underlying22 rfl rfl (by first | exact hO2.cellI 0 rfl _ (by omega) (by omega) | exact hO2.cellL 0 rfl rfl | exact hO2.cellI 1 rfl _ (by omega) (by omega) | exact hO2.cellL 1 rfl rfl | exact hO2.cellI 2 rfl _ (by omega) (by omega) | exact hO2.cellL 2 rfl rfl | exact hO2.cellI 3 rfl _ (by omega) (by omega) | exact hO2.cellL 3 rfl rfl | exact hO2.cellI 4 rfl _ (by omega) (by omega) | exact hO2.cellL 4 rfl rfl | exact hO2.cellI 5 rfl _ (by omega) (by omega) | exact hO2.cellL 5 rfl rfl)) ?_
  refine rl_call callable_27 rfl rfl rfl rfl rfl rfl (refOwes_any ao n c D _ hv (h.later hO2.below)) (fun e4 w5 hp6 => ?_)
  obtain ⟨b2, rfl, hOc⟩ := hp6
  refine ⟨_, rfl, ?_⟩
  have hO7 := hO2.join hOc
  have hO5 := hO7.nil_cons
  refine rl_v rfl rfl rfl (ov_assign rfl rfl) ?_
  refine rl_nil ?_
  refine run_seq ?_
  refine run_region ?_
  refine rl_v rfl rfl rfl (ov_assign rfl rfl) ?_
  refine rl_nil ?_
  refine run_seq ?_
  refine run_region ?_
  refine rl_v rfl rfl rfl (ov_move rfl rfl) ?_
  refine rl_v rfl rfl rfl (ov_move rfl rfl) ?_
  refine rl_appSI rfl rfl rfl rfl Try.underlying23 info_2 rfl hO5 0 (IRow.nil 2 (fun j => .int .i64 (zeroI j))) rfl rfl rfl (hO5.readsI 1 rfl) ⟨by omega, by omega⟩ (fun v3 c3 w8 hO9 hr3 hs10 => ?_)
  rw [Nat.zero_add] at hr3
  obtain ⟨ao3, cap3, rfl⟩ := hr3.val
  obtain ⟨b3, G0, rfl, hq1, hq2, rfl, hG0⟩ := IRow.asV (n := n) (G := fun i => .int .i64 (ow n D i)) (hr3.congr fun i i0 i1 => by unfold joinF; rw [if_neg (by omega)]; simp) hpos
  refine rl_v rfl rfl rfl (ov_assign rfl rfl) ?_
  refine rl_nil ?_
  refine run_seq ?_
  refine run_seq ?_
  refine run_region ?_
  refine rl_v rfl rfl rfl (ov_assign rfl rfl) ?_
  refine rl_nil ?_
  refine run_block ?_
  refine Run.keep [1, 2, 5, 6, 7] (F' := [(1, _), (2, _), (5, _), (6, _), (7, _)]) rfl ?_
  refine run_loop3 (fun (ch : Bool) (x : Int → Int) (G : Int → Value) => [(7, .bool ch)]) [1, 2, 5, 6] (fun (ch : Bool) (x : Int → Int) (G : Int → Value) (w11 : World) => Fall n D cash inn x ∧ (ch = false → ∀ j, j < 32 → x ((j : Nat) : Int) = amF n D cash inn x j) ∧ (∀ j : Int, 0 ≤ j → j < n → G j = .int .i64 (x j)) ∧ Own w.heap.size w w11 [some (vch b3 2 cap3 G), some (vch b2 2 n (fun i => .int .i64 (ow n D i))), some (lch b1 35 [.slice ao n c, .slice ac n cc])]) (fun (ch : Bool) (x : Int → Int) (G : Int → Value) => 2 * (sm x n).toNat + (if ch = true then 1 else 0)) (true) (upto n (ow n D)) (G0) ?_ (And.intro (by first | with_reducible rfl | rfl) (And.intro rfl (And.intro rfl (And.intro rfl (And.intro rfl trivial))))) ?_
  · exact ⟨Fall.start hv, fun h => Bool.noConfusion h, fun j j0 j1 => by rw [hG0 j j0 j1, upto_in j0 j1], hO9⟩
  intro ch x G w11 hIw11 ih12
  obtain ⟨hF, hch, hG, hO⟩ := hIw11
  show Run _ _ _ _ [(7, _), (1, _), (2, _), (5, _), (6, _)] _ _
  refine run_seq ?_
  refine run_seq ?_
  refine run_region ?_
  refine rl_v rfl rfl rfl (ov_move rfl rfl) ?_
  refine rl_nil ?_
  first | refine run_cond_dec rfl (fun hct => ?_) (fun hct => ?_) | refine run_cond rfl (fun hct => ?_) (fun hct => ?_)
  · subst hct
    refine run_skip ?_
    refine run_block ?_
    refine run_seq ?_
    refine run_region ?_
    refine rl_v rfl rfl rfl (ov_assign rfl rfl) ?_
    refine rl_nil ?_
    refine run_seq ?_
    refine run_region ?_
    refine rl_v rfl rfl rfl (ov_fieldS rfl Try.underlying35 rfl (fo := 0) rfl (by kernel_rfl) rfl) ?_
    refine rl_v rfl rfl rfl (ov_load rfl Try.underlying22 rfl rfl (by first | exact hcash _ hO.below _ (by omega) (by omega) | exact hinn _ hO.below _ (by omega) (by omega) | exact hO.cellI 0 rfl _ (by omega) (by omega) | exact hO.cellL 0 rfl rfl | exact hO.cellI 1 rfl _ (by omega) (by omega) | exact hO.cellL 1 rfl rfl | exact hO.cellI 2 rfl _ (by omega) (by omega) | exact hO.cellL 2 rfl rfl | exact hO.cellI 3 rfl _ (by omega) (by omega) | exact hO.cellL 3 rfl rfl | exact hO.cellI 4 rfl _ (by omega) (by omega) | exact hO.cellL 4 rfl rfl | exact hO.cellI 5 rfl _ (by omega) (by omega) | exact hO.cellL 5 rfl rfl)) ?_
    refine rl_v rfl rfl rfl (ov_move rfl rfl) ?_
    refine rl_call callable_24 rfl rfl rfl rfl rfl rfl (refReceived_any ao _ n c n cap3 D x _ hv (Nat.le_refl _) hF.rng (h.later hO.below) (((hO.readsI 0 rfl).take hq1).congr hG)) (fun e13 w14 hp15 => ?_)
    obtain ⟨b4, rfl, hOd⟩ := hp15
    refine ⟨_, rfl, ?_⟩
    have hO16 := hO.join hOd
    refine rl_v rfl rfl rfl (ov_assign rfl rfl) ?_
    refine rl_nil ?_
    refine run_seq ?_
    refine run_region ?_
    refine rl_v rfl rfl rfl (ov_assign rfl rfl) ?_
    refine rl_nil ?_
    refine run_block ?_
    refine Run.keep [1, 2, 5, 6, 7, 8, 9] (F' := [(1, _), (2, _), (5, _), (6, _), (7, _), (8, _), (9, _)]) rfl ?_
    refine run_loop3 (fun (k : Int) (ch2 : Bool) (G2 : Int → Value) => [(9, .int .i64 k), (7, .bool ch2)]) [1, 2, 5, 6, 8] (fun (k : Int) (ch2 : Bool) (G2 : Int → Value) (w17 : World) => 0 ≤ k ∧ k ≤ n ∧ (ch2 = true ↔ ∃ j : Int, 0 ≤ j ∧ j < k ∧ x j ≠ amF n D cash inn x j) ∧ (∀ j : Int, 0 ≤ j → j < n → G2 j = .int .i64 (if j < k then amF n D cash inn x j else x j)) ∧ Own w.heap.size w w17 [some (vch b4 2 n (fun i => .int .i64 (rcv n D x i))), some (vch b3 2 cap3 G2), some (vch b2 2 n (fun i => .int .i64 (ow n D i))), some (lch b1 35 [.slice ao n c, .slice ac n cc])]) (fun (k : Int) (ch2 : Bool) (G2 : Int → Value) => ((n : Int) - k).toNat) (0) (false) (G) ?_ (And.intro (by first | with_reducible rfl | exact slot_int rfl (by first | omega) | rfl) (And.intro (by first | with_reducible rfl | rfl) (And.intro rfl (And.intro rfl (And.intro rfl (And.intro rfl (And.intro rfl trivial))))))) ?_
    · exact ⟨by omega, by omega, ⟨fun h => Bool.noConfusion h, fun ⟨j, j0, j1, _⟩ => by omega⟩, fun j j0 j1 => by rw [hG j j0 j1, if_neg (by omega)], hO16⟩
    intro k ch2 G2 w17 hIw17 ih18
    obtain ⟨hk0, hk1, hch2, hG2, hO2⟩ := hIw17
    show Run _ _ _ _ [(9, _), (7, _), (1, _), (2, _), (5, _), (6, _), (8, _)] _ _
    refine run_seq ?_
    refine run_seq ?_
    refine run_region ?_
    refine rl_v rfl rfl rfl (ov_move rfl rfl) ?_
    refine rl_v rfl rfl rfl (ov_move rfl rfl) ?_
    refine rl_v rfl rfl rfl (ov_len rfl Try.underlying23 rfl) ?_
    refine rl_v rfl rfl rfl (ov_lss rfl rfl rfl) ?_
    refine rl_nil ?_
    first | refine run_cond_dec rfl (fun h3 => ?_) (fun h3 => ?_) | refine run_cond rfl (fun h3 => ?_) (fun h3 => ?_)
    · have hck := hc k hk0 h3
      have hrr := rcv_rng hv x hF.rng k
      have hdk := hF.down k hk0 h3
      have hx2 : G2 k = .int .i64 (x k) := by rw [hG2 k hk0 h3, if_neg (Int.lt_irrefl k)]
      refine run_skip ?_
      refine run_seq ?_
      refine run_block ?_
      refine run_seq ?_
      refine run_quiet mixed (by kernel_rfl) ?_
      refine rq_v rfl rfl rfl (fun _ => ov_move rfl rfl) ?_
      refine rq_v rfl rfl rfl (fun _ => ov_move rfl rfl) ?_
      refine rq_v rfl rfl rfl (fun _ => ov_index1 rfl Try.underlying23 (by kernel_rfl) rfl rfl ⟨by omega, by omega⟩ (by first | rfl | exact hca (by omega) | exact hna (by omega))) ?_
      refine rq_v rfl rfl rfl (fun _ => ov_load rfl Try.underlying2 rfl rfl (by show World.cell? w17 _ = _; first | exact hcash _ hO2.below _ (by omega) (by omega) | exact hinn _ hO2.below _ (by omega) (by omega) | exact hO2.cellI 0 rfl _ (by omega) (by omega) | exact hO2.cellL 0 rfl rfl | exact hO2.cellI 1 rfl _ (by omega) (by omega) | exact hO2.cellL 1 rfl rfl | exact hO2.cellI 2 rfl _ (by omega) (by omega) | exact hO2.cellL 2 rfl rfl | exact hO2.cellI 3 rfl _ (by omega) (by omega) | exact hO2.cellL 3 rfl rfl | exact hO2.cellI 4 rfl _ (by omega) (by omega) | exact hO2.cellL 4 rfl rfl | exact hO2.cellI 5 rfl _ (by omega) (by omega) | exact hO2.cellL 5 rfl rfl)) ?_
      refine rq_v rfl rfl rfl (fun _ => ov_fieldS rfl Try.underlying35 rfl (fo := 1) rfl (by kernel_rfl) rfl) ?_
      refine rq_v rfl rfl rfl (fun _ => ov_load rfl Try.underlying23 rfl rfl (by show World.cell? w17 _ = _; first | exact hcash _ hO2.below _ (by omega) (by omega) | exact hinn _ hO2.below _ (by omega) (by omega) | exact hO2.cellI 0 rfl _ (by omega) (by omega) | exact hO2.cellL 0 rfl rfl | exact hO2.cellI 1 rfl _ (by omega) (by omega) | exact hO2.cellL 1 rfl rfl | exact hO2.cellI 2 rfl _ (by omega) (by omega) | exact hO2.cellL 2 rfl rfl | exact hO2.cellI 3 rfl _ (by omega) (by omega) | exact hO2.cellL 3 rfl rfl | exact hO2.cellI 4 rfl _ (by omega) (by omega) | exact hO2.cellL 4 rfl rfl | exact hO2.cellI 5 rfl _ (by omega) (by omega) | exact hO2.cellL 5 rfl rfl)) ?_
      refine rq_v rfl rfl rfl (fun _ => ov_move rfl rfl) ?_
      refine rq_v rfl rfl rfl (fun _ => ov_index1 rfl Try.underlying23 (by kernel_rfl) rfl rfl ⟨by omega, by omega⟩ (by first | rfl | exact hca (by omega) | exact hna (by omega))) ?_
      refine rq_v rfl rfl rfl (fun _ => ov_load rfl Try.underlying2 rfl rfl (by show World.cell? w17 _ = _; first | exact hcash _ hO2.below _ (by omega) (by omega) | exact hinn _ hO2.below _ (by omega) (by omega) | exact hO2.cellI 0 rfl _ (by omega) (by omega) | exact hO2.cellL 0 rfl rfl | exact hO2.cellI 1 rfl _ (by omega) (by omega) | exact hO2.cellL 1 rfl rfl | exact hO2.cellI 2 rfl _ (by omega) (by omega) | exact hO2.cellL 2 rfl rfl | exact hO2.cellI 3 rfl _ (by omega) (by omega) | exact hO2.cellL 3 rfl rfl | exact hO2.cellI 4 rfl _ (by omega) (by omega) | exact hO2.cellL 4 rfl rfl | exact hO2.cellI 5 rfl _ (by omega) (by omega) | exact hO2.cellL 5 rfl rfl)) ?_
      refine rq_v rfl rfl rfl (fun _ => ov_move rfl rfl) ?_
      refine rq_v rfl rfl rfl (fun _ => ov_move rfl rfl) ?_
      refine rq_v rfl rfl rfl (fun _ => ov_index1 rfl Try.underlying23 (by kernel_rfl) rfl rfl ⟨by omega, by omega⟩ (by first | rfl | exact hca (by omega) | exact hna (by omega))) ?_
      refine rq_v rfl rfl rfl (fun _ => ov_load rfl Try.underlying2 rfl rfl (by show World.cell? w17 _ = _; first | exact hcash _ hO2.below _ (by omega) (by omega) | exact hinn _ hO2.below _ (by omega) (by omega) | exact hO2.cellI 0 rfl _ (by omega) (by omega) | exact hO2.cellL 0 rfl rfl | exact hO2.cellI 1 rfl _ (by omega) (by omega) | exact hO2.cellL 1 rfl rfl | exact hO2.cellI 2 rfl _ (by omega) (by omega) | exact hO2.cellL 2 rfl rfl | exact hO2.cellI 3 rfl _ (by omega) (by omega) | exact hO2.cellL 3 rfl rfl | exact hO2.cellI 4 rfl _ (by omega) (by omega) | exact hO2.cellL 4 rfl rfl | exact hO2.cellI 5 rfl _ (by omega) (by omega) | exact hO2.cellL 5 rfl rfl)) ?_
      refine rq_v rfl rfl rfl (fun _ => ov_add rfl rfl rfl (by omega)) ?_
      refine rq_v rfl rfl rfl (fun _ => ov_min rfl rfl rfl) ?_
      refine rq_v rfl rfl rfl (fun _ => ov_assign rfl rfl) ?_
      refine rq_nil (fun n19 => ?_)
      have hO21 := hO2.drewN n19
      generalize World.drewN w17 n19 = w20 at hO21 ⊢
      refine run_seq ?_
      refine run_region ?_
      refine rl_v rfl rfl rfl (ov_move rfl rfl) ?_
      refine rl_v rfl rfl rfl (ov_move rfl rfl) ?_
      refine rl_v rfl rfl rfl (ov_index1 rfl Try.underlying48 (by kernel_rfl) rfl rfl ⟨by omega, by omega⟩ (by first | rfl | exact hca (by omega) | exact hna (by omega))) ?_
      refine rl_v rfl rfl rfl (ov_load rfl Try.underlying4 rfl rfl (by first | exact hcash _ hO21.below _ (by omega) (by omega) | exact hinn _ hO21.below _ (by omega) (by omega) | exact hO21.cellI 0 rfl _ (by omega) (by omega) | exact hO21.cellL 0 rfl rfl | exact hO21.cellI 1 rfl _ (by omega) (by omega) | exact hO21.cellL 1 rfl rfl | exact hO21.cellI 2 rfl _ (by omega) (by omega) | exact hO21.cellL 2 rfl rfl | exact hO21.cellI 3 rfl _ (by omega) (by omega) | exact hO21.cellL 3 rfl rfl | exact hO21.cellI 4 rfl _ (by omega) (by omega) | exact hO21.cellL 4 rfl rfl | exact hO21.cellI 5 rfl _ (by omega) (by omega) | exact hO21.cellL 5 rfl rfl)) ?_
      refine rl_v rfl rfl rfl (ov_move rfl rfl) ?_
      first | refine rl_split_dec 47 rfl (fun hi => ?_) (fun hi => ?_) | refine rl_split 47 rfl (fun hi => ?_) (fun hi => ?_)
      · refine rl_gv rfl rfl rfl rfl rfl (ov_move rfl rfl) ?_
        refine rl_gv rfl rfl rfl rfl rfl (ov_move rfl rfl) ?_
        refine rl_gv rfl rfl rfl rfl rfl (ov_move rfl rfl) ?_
        refine rl_gv rfl rfl rfl rfl rfl (ov_index1 rfl Try.underlying23 (by kernel_rfl) rfl rfl ⟨by omega, by omega⟩ (by first | rfl | exact hca (by omega) | exact hna (by omega))) ?_
        refine rl_gv rfl rfl rfl rfl rfl (ov_load rfl Try.underlying2 rfl rfl (by first | exact (hO21.cellI 1 rfl k hk0 (by omega)).trans (congrArg some hx2))) ?_
        refine rl_gv rfl rfl rfl rfl rfl (ov_lss rfl rfl rfl) ?_
        refine rl_v rfl rfl rfl (ov_pick_t rfl rfl rfl) ?_
        refine rl_nil ?_
        first | refine run_cond_dec rfl (fun h4 => ?_) (fun h4 => ?_) | refine run_cond rfl (fun h4 => ?_) (fun h4 => ?_)
        · have e1 : amF n D cash inn x k = min (ow n D k) (cash k + rcv n D x k) := amF_in hk0 h3 hi
          refine run_seq ?_
          refine run_region ?_
          refine rl_v rfl rfl rfl (ov_move rfl rfl) ?_
          refine rl_v rfl rfl rfl (ov_move rfl rfl) ?_
          refine rl_v rfl rfl rfl (ov_move rfl rfl) ?_
          refine rl_v rfl rfl rfl (ov_index1 rfl Try.underlying23 (by kernel_rfl) rfl rfl ⟨by omega, by omega⟩ (by first | rfl | exact hca (by omega) | exact hna (by omega))) ?_
          refine rl_ow rfl (ow_store rfl rfl (by kernel_rfl) hO21 1 rfl rfl ⟨by omega, by omega⟩ rfl rfl) ?_
          rintro _ w23 ⟨rfl, hO24, hs25⟩
          refine rl_nil ?_
          refine run_region ?_
          refine rl_v rfl rfl rfl (ov_assign rfl rfl) ?_
          refine rl_nil ?_
          refine run_inBlock ?_
          refine run_region ?_
          refine rl_v rfl rfl rfl (ov_move rfl rfl) ?_
          refine rl_v rfl rfl rfl (ov_add rfl rfl rfl (by omega)) ?_
          refine rl_v rfl rfl rfl (ov_assign rfl rfl) ?_
          refine rl_nil ?_
          refine Run.use (ih18 (k + 1) (true) (upd G2 k (.int .i64 (min (ow n D k) (cash k + rcv n D x k)))) _ ?_ ?_) (And.intro (by first | with_reducible rfl | exact slot_int rfl (by first | omega) | rfl) (And.intro (by first | with_reducible rfl | rfl) (And.intro rfl (And.intro rfl (And.intro rfl (And.intro rfl (And.intro rfl trivial)))))))
          · first | omega | (dsimp only; omega)
          · exact ⟨by omega, by omega, ⟨fun _ => ⟨k, hk0, by omega, by rw [e1]; omega⟩, fun _ => rfl⟩, fun j j0 j1 => by unfold upd; split; (rename_i e; rw [e, if_pos (by omega), e1]); (rename_i e; rw [hG2 j j0 j1]; congr 1; split <;> split <;> first | rfl | omega), hO24⟩
        · have e1 : amF n D cash inn x k = x k := by rw [amF_in hk0 h3 hi]; rw [amF_in hk0 h3 hi] at hdk; omega
          have hnx : (ch2 = true ↔ ∃ j : Int, 0 ≤ j ∧ j < k + 1 ∧ x j ≠ amF n D cash inn x j) := ⟨fun h => by obtain ⟨j, a, b, e⟩ := hch2.1 h; exact ⟨j, a, by omega, e⟩, fun ⟨j, a, b, e⟩ => (by omega : j = k ∨ j < k).elim (fun q => by subst q; exact absurd e1.symm e) (fun q => hch2.2 ⟨j, a, q, e⟩)⟩
          refine run_skip ?_
          refine run_inBlock ?_
          refine run_region ?_
          refine rl_v rfl rfl rfl (ov_move rfl rfl) ?_
          refine rl_v rfl rfl rfl (ov_add rfl rfl rfl (by omega)) ?_
          refine rl_v rfl rfl rfl (ov_assign rfl rfl) ?_
          refine rl_nil ?_
          refine Run.use (ih18 (k + 1) (ch2) (G2) _ ?_ ?_) (And.intro (by first | with_reducible rfl | exact slot_int rfl (by first | omega) | rfl) (And.intro (by first | with_reducible rfl | rfl) (And.intro rfl (And.intro rfl (And.intro rfl (And.intro rfl (And.intro rfl trivial)))))))
          · first | omega | (dsimp only; omega)
          · exact ⟨by omega, by omega, hnx, fun j j0 j1 => by rw [hG2 j j0 j1]; congr 1; split; (rw [if_pos (by omega)]); (by_cases q : j = k; (rw [if_pos (by omega), q, e1]); (rw [if_neg (by omega)])), hO21⟩
      · have e1 : amF n D cash inn x k = x k := amF_off hi
        have hnx : (ch2 = true ↔ ∃ j : Int, 0 ≤ j ∧ j < k + 1 ∧ x j ≠ amF n D cash inn x j) := ⟨fun h => by obtain ⟨j, a, b, e⟩ := hch2.1 h; exact ⟨j, a, by omega, e⟩, fun ⟨j, a, b, e⟩ => (by omega : j = k ∨ j < k).elim (fun q => by subst q; exact absurd e1.symm e) (fun q => hch2.2 ⟨j, a, q, e⟩)⟩
        refine rl_gskip rfl rfl rfl rfl rfl rfl ?_
        refine rl_gskip rfl rfl rfl rfl rfl rfl ?_
        refine rl_gskip rfl rfl rfl rfl rfl rfl ?_
        refine rl_gskip rfl rfl rfl rfl rfl rfl ?_
        refine rl_gskip rfl rfl rfl rfl rfl rfl ?_
        refine rl_gskip rfl rfl rfl rfl rfl rfl ?_
        refine rl_v rfl rfl rfl (ov_pick_f rfl rfl rfl) ?_
        refine rl_nil ?_
        refine run_cond_f rfl ?_
        refine run_skip ?_
        refine run_inBlock ?_
        refine run_region ?_
        refine rl_v rfl rfl rfl (ov_move rfl rfl) ?_
        refine rl_v rfl rfl rfl (ov_add rfl rfl rfl (by omega)) ?_
        refine rl_v rfl rfl rfl (ov_assign rfl rfl) ?_
        refine rl_nil ?_
        refine Run.use (ih18 (k + 1) (ch2) (G2) _ ?_ ?_) (And.intro (by first | with_reducible rfl | exact slot_int rfl (by first | omega) | rfl) (And.intro (by first | with_reducible rfl | rfl) (And.intro rfl (And.intro rfl (And.intro rfl (And.intro rfl (And.intro rfl trivial)))))))
        · first | omega | (dsimp only; omega)
        · exact ⟨by omega, by omega, hnx, fun j j0 j1 => by rw [hG2 j j0 j1]; congr 1; split; (rw [if_pos (by omega)]); (by_cases q : j = k; (rw [if_pos (by omega), q, e1]); (rw [if_neg (by omega)])), hO21⟩
    · obtain rfl : k = n := by omega
      have hfin : ch2 = false → ∀ j, j < 32 → x ((j : Nat) : Int) = amF n D cash inn x j := fun h j hj => by
        by_cases hjn : (j : Int) < n
        · exact Classical.byContradiction fun e => by rw [hch2.2 ⟨j, by omega, hjn, e⟩] at h; cases h
        · exact (amF_out (by omega)).symm
      have hsm : 2 * (sm (amF n D cash inn x) n).toNat + (if ch2 = true then 1 else 0) < 2 * (sm x n).toNat + (if true = true then 1 else 0) := by
        cases ch2 with
        | false =>
          have : sm (amF n D cash inn x) n = sm x n := sm_congr fun i i0 i1 => by have := hfin rfl i.toNat (by omega); rw [Int.toNat_of_nonneg i0] at this; exact this.symm
          rw [this]; simp
        | true =>
          obtain ⟨j, j0, j1, e⟩ := hch2.1 rfl
          have := (hF.less hv hc0).resolve_left (fun h => e (by have := h j.toNat (by omega); rw [Int.toNat_of_nonneg j0] at this; exact this))
          simp; omega
      have hfin2 : ch2 = false → ∀ j, j < 32 → amF n D cash inn x ((j : Nat) : Int) = amF n D cash inn (amF n D cash inn x) j := fun h j hj => by
        have he : ∀ i : Int, 0 ≤ i → i < n → amF n D cash inn x i = x i := fun i i0 i1 => by have := hfin h i.toNat (by omega); rw [Int.toNat_of_nonneg i0] at this; exact this.symm
        have hrc := rcv_congr (D := D) he j
        rw [show amF n D cash inn (amF n D cash inn x) j = amF n D cash inn x j from by
          show (if _ then _ else _) = (if _ then _ else _)
          rw [hrc, ← hfin h j hj]]
      refine run_exit rfl ?_
      refine run_inBlock ?_
      refine Run.use (ih12 (ch2) (amF n D cash inn x) (G2) _ ?_ ?_) (And.intro (by first | with_reducible rfl | rfl) (And.intro rfl (And.intro rfl (And.intro rfl (And.intro rfl trivial)))))
      · exact hsm
      · exact ⟨hF.step hv hc0, hfin2, fun j j0 j1 => by rw [hG2 j j0 j1, if_pos (by omega)], hO2.tail⟩
  · have hcf : ch = false := by cases ch; rfl; exact absurd hct (by decide)
    refine run_exit rfl ?_
    refine run_seq ?_
    refine run_region ?_
    refine rl_v rfl rfl rfl (ov_move rfl rfl) ?_
    refine rl_v rfl rfl rfl (ov_assign rfl rfl) ?_
    refine rl_nil ?_
    refine run_ret Try.func28 (res1 Try.results28 rfl) ?_
    exact ⟨x, _, _, rfl, hF.done (hch hcf) hle, IRow.ofV hq1 hq2 hG, hO.sub (.cons_cons _ (.cons _ (.cons _ (.refl _))))⟩
end Go.Proofs.Ytiambddcpflkhaa
