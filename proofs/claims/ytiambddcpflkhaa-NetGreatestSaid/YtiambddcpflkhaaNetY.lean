/- NetGreatest: the walk. -/
import Derived.Test.YtiambddcpflkhaaNetX
import Derived.Test.YtiambddcpflkhaaNetQ
set_option maxRecDepth 100000
namespace Go.Proofs.Ytiambddcpflkhaa
open Go.RowKit Go.Proofs

set_option maxHeartbeats 4000000 in
theorem netGreatest_any (ao bo po : Option Addr) (G Gc R cb Q cp : Nat) (L : Int → Nat) (D0 : Int → Int → Int) (c0 p0 of0 : Int → Int) (w : World)
    (h : ITab w.heap.size w ao G L (fun r c => .int .i64 (D0 r c))) (h2 : IAt w.heap.size w bo R (fun i => .int .i64 (c0 i))) (h3 : IAt w.heap.size w po Q (fun i => .int .i64 (p0 i))) :
    Calls Try.prog 7 #[.agg [.slice ao G Gc, .slice bo R cb].toArray, .slice po Q cp, arrv 2 (fun i => .int .i64 (of0 i))] w fun e w' => e = .returned (.bool true) ∧ Below w.heap.size w w' := by
  refine calls_of_run (F := [(0, _), (1, _), (2, _)]) Try.func7 rfl Try.ntmps7 rfl rfl ?_
  have hO0 := Own.init w
  refine run_seq ?_
  refine run_region ?_
  refine rl_ow rfl (ow_box _ rfl rfl rfl rfl rfl hO0) ?_
  rintro _ w1 ⟨b3, rfl, hO2, hs3⟩
  refine rl_ow rfl (ow_boxA rfl rfl rfl rfl hO2) ?_
  rintro _ w4 ⟨b5, rfl, hO5, hs6⟩
  have hI5 := hO5.readsI 0 rfl
  have hO0' := hO5
  refine rl_v rfl rfl rfl (ov_assign rfl rfl) ?_
  refine rl_nil ?_
  refine run_seq ?_
  refine run_region ?_
  refine rl_v rfl rfl rfl (ov_loadW rfl Try.underlying35 rfl (by kernel_rfl) rfl hO5 1 rfl) ?_
  refine rl_call callable_19 rfl rfl rfl rfl rfl rfl (crisis_any ao bo G Gc R cb 7 L D0 c0 _ (by omega) (by omega) (h.later hO5.below) (h2.later hO5.below)) (fun e7 w8 hp9 => ?_)
  obtain ⟨to, tx, tc, xc, n, D, cash, H, cc, rfl, hT, hrc, hOc, hv, hn6, hD60, hcash⟩ := hp9
  refine ⟨_, rfl, ?_⟩
  have hn1 := hv.pos
  have hle := hv.le
  obtain ⟨cb1, Gc1, rfl, hqc1, hqc2, rfl, hGc1⟩ := hrc.asV hn1
  have hOA := hO5.join hOc
  have hIT := hT.reads (H' := []) (by simpa using hOc.tail)
  have hIC := hrc.reads hOc 0 rfl
  have h3' := (h3.below hOA.below).mono hOA.size
  have hI5' := hI5.later hOc.below
  have hI0 := Own.init w8
  have hc6 : ∀ i : Int, 0 ≤ i → i < n → 0 ≤ cash i ∧ cash i ≤ 1000000 := fun i _ _ => hcash i
  have hc0' : ∀ i : Int, 0 ≤ i → i < n → 0 ≤ cash i := fun i _ _ => (hcash i).1
  refine rl_ow rfl (ow_alloc _ rfl rfl rfl zero_35 rfl hI0) ?_
  rintro _ w10 ⟨b7, rfl, hO11, hs12⟩
  refine rl_ow rfl (ow_storeW rfl rfl (by kernel_rfl) hO11 0 rfl rfl (by rfl) rfl (by rfl)) ?_
  rintro _ w13 ⟨rfl, hO14, hs15⟩
  refine rl_nil ?_
  refine run_seq ?_
  refine run_region ?_
  refine rl_v rfl rfl rfl (ov_loadW rfl Try.underlying35 rfl (by kernel_rfl) rfl hO14 0 rfl) ?_
  refine rl_call callable_20 rfl rfl rfl rfl rfl rfl (give_any to (some ⟨cb1, 0, none⟩) n tc n xc _) (fun e16 w17 hp18 => ?_)
  obtain ⟨rfl, hbg⟩ := hp18
  refine ⟨_, rfl, ?_⟩
  have hO19 := hO14.past hbg
  refine rl_ow rfl (ow_alloc _ rfl rfl rfl zero_37 rfl hO19) ?_
  rintro _ w20 ⟨b8, rfl, hO21, hs22⟩
  refine rl_ow rfl (ow_storeW rfl rfl (by kernel_rfl) hO21 0 rfl rfl (by rfl) rfl (by rfl)) ?_
  rintro _ w23 ⟨rfl, hO24, hs25⟩
  refine rl_nil ?_
  refine run_seq ?_
  refine run_region ?_
  refine rl_v rfl rfl rfl (ov_fieldS rfl Try.underlying35 rfl (fo := 0) rfl (by kernel_rfl) rfl) ?_
  refine rl_v rfl rfl rfl (ov_load rfl Try.underlying22 rfl rfl (by first | exact hO24.cellI 0 rfl _ (by omega) (by omega) | exact hO24.cellL 0 rfl rfl | exact hO24.cellI 1 rfl _ (by omega) (by omega) | exact hO24.cellL 1 rfl rfl | exact hO24.cellI 2 rfl _ (by omega) (by omega) | exact hO24.cellL 2 rfl rfl | exact hO24.cellI 3 rfl _ (by omega) (by omega) | exact hO24.cellL 3 rfl rfl | exact hO24.cellI 4 rfl _ (by omega) (by omega) | exact hO24.cellL 4 rfl rfl | exact hO24.cellI 5 rfl _ (by omega) (by omega) | exact hO24.cellL 5 rfl rfl)) ?_
  refine rl_v rfl rfl rfl (ov_len rfl Try.underlying22 rfl) ?_
  refine rl_v rfl rfl rfl (ov_assign rfl rfl) ?_
  refine rl_nil ?_
  refine run_seq ?_
  refine run_region ?_
  refine rl_v rfl rfl rfl (ov_loadW rfl Try.underlying37 rfl (by kernel_rfl) rfl hO24 0 rfl) ?_
  refine rl_call callable_32 rfl rfl rfl rfl rfl rfl (Clear_any to (some ⟨cb1, 0, none⟩) n tc xc D cash _ hv hc6 (hIT.later hO24.below) (hIC.later hO24.below)) (fun e26 w27 hp28 => ?_)
  obtain ⟨v10, p, c10, rfl, hp, hr10, hO10⟩ := hp28
  refine ⟨_, rfl, ?_⟩
  have hO29 := hO24.join hO10
  obtain ⟨a10, x10, rfl⟩ := hr10.val
  refine rl_v rfl rfl rfl (ov_move rfl rfl) ?_
  refine rl_v rfl rfl rfl (ov_extract rfl rfl (by rfl)) ?_
  refine rl_v rfl rfl rfl (ov_extract rfl rfl (by rfl)) ?_
  refine rl_v rfl rfl rfl (ov_assign rfl rfl) ?_
  refine rl_v rfl rfl rfl (ov_assign rfl rfl) ?_
  refine rl_nil ?_
  refine run_seq ?_
  refine run_region ?_
  refine rl_v rfl rfl rfl (ov_loadW rfl Try.underlying37 rfl (by kernel_rfl) rfl hO29 1 rfl) ?_
  refine rl_v rfl rfl rfl (ov_move rfl rfl) ?_
  refine rl_call callable_21 rfl rfl rfl rfl rfl rfl (received_any2 to (some ⟨cb1, 0, none⟩) a10 n tc xc n x10 D cash p _ hv hc6 (by omega) (hIT.later hO29.below) (hIC.later hO29.below) (hr10.reads hO29 0 rfl)) (fun e30 w31 hp32 => ?_)
  obtain ⟨f, xo, q, xcap, c12, rfl, hcase, hr12, hO12⟩ := hp32
  refine ⟨_, rfl, ?_⟩
  have hO33 := hO29.join hO12
  obtain ⟨hf, hq0⟩ : 0 = f ∧ n = q := by
    rcases hcase with ⟨h0, _⟩ | ⟨_, h0, _⟩ | ⟨_, _, h1, h2⟩
    · exact absurd rfl h0
    · exact absurd hp.rng h0
    · exact ⟨h1.symm, h2.symm⟩
  clear hcase
  subst hf
  subst hq0
  refine rl_v rfl rfl rfl (ov_move rfl rfl) ?_
  refine rl_v rfl rfl rfl (ov_extract rfl rfl (by rfl)) ?_
  refine rl_v rfl rfl rfl (ov_extract rfl rfl (by rfl)) ?_
  refine rl_v rfl rfl rfl (ov_assign rfl rfl) ?_
  refine rl_v rfl rfl rfl (ov_assign rfl rfl) ?_
  refine rl_nil ?_
  refine run_seq ?_
  refine run_seq ?_
  refine run_region ?_
  refine rl_v rfl rfl rfl (ov_move rfl rfl) ?_
  refine rl_v rfl rfl rfl (ov_neq rfl rfl rfl) ?_
  refine rl_v rfl rfl rfl (ov_move rfl rfl) ?_
  first | refine rl_split_dec 60 rfl (fun g1 => ?_) (fun g1 => ?_) | refine rl_split 60 rfl (fun g1 => ?_) (fun g1 => ?_)
  · refine rl_gskip rfl rfl rfl rfl rfl rfl ?_
    refine rl_gskip rfl rfl rfl rfl rfl rfl ?_
    refine rl_v rfl rfl rfl (ov_pick_t rfl rfl rfl) ?_
    refine rl_v rfl rfl rfl (ov_move rfl rfl) ?_
    refine rl_gskip rfl rfl rfl rfl rfl rfl ?_
    refine rl_gskip rfl rfl rfl rfl rfl rfl ?_
    refine rl_gskip rfl rfl rfl rfl rfl rfl ?_
    refine rl_gskip rfl rfl rfl rfl rfl rfl ?_
    refine rl_v rfl rfl rfl (ov_pick_t rfl rfl rfl) ?_
    refine rl_v rfl rfl rfl (ov_move rfl rfl) ?_
    refine rl_gskip rfl rfl rfl rfl rfl rfl ?_
    refine rl_gskip rfl rfl rfl rfl rfl rfl ?_
    refine rl_gskip rfl rfl rfl rfl rfl rfl ?_
    refine rl_gskip rfl rfl rfl rfl rfl rfl ?_
    refine rl_v rfl rfl rfl (ov_pick_t rfl rfl rfl) ?_
    refine rl_v rfl rfl rfl (ov_move rfl rfl) ?_
    refine rl_gskip rfl rfl rfl rfl rfl rfl ?_
    refine rl_gskip rfl rfl rfl rfl rfl rfl ?_
    refine rl_gskip rfl rfl rfl rfl rfl rfl ?_
    refine rl_gskip rfl rfl rfl rfl rfl rfl ?_
    refine rl_v rfl rfl rfl (ov_pick_t rfl rfl rfl) ?_
    refine rl_nil ?_
    refine run_cond_t rfl ?_
    exfalso; exact g1 rfl
  · refine rl_gv rfl rfl rfl rfl rfl (ov_move rfl rfl) ?_
    refine rl_gv rfl rfl rfl rfl rfl (ov_neq rfl rfl rfl) ?_
    refine rl_v rfl rfl rfl (ov_pick_f rfl rfl rfl) ?_
    refine rl_v rfl rfl rfl (ov_move rfl rfl) ?_
    first | refine rl_split_dec 64 rfl (fun g2 => ?_) (fun g2 => ?_) | refine rl_split 64 rfl (fun g2 => ?_) (fun g2 => ?_)
    · refine rl_gskip rfl rfl rfl rfl rfl rfl ?_
      refine rl_gskip rfl rfl rfl rfl rfl rfl ?_
      refine rl_gskip rfl rfl rfl rfl rfl rfl ?_
      refine rl_gskip rfl rfl rfl rfl rfl rfl ?_
      refine rl_v rfl rfl rfl (ov_pick_t rfl rfl rfl) ?_
      refine rl_v rfl rfl rfl (ov_move rfl rfl) ?_
      refine rl_gskip rfl rfl rfl rfl rfl rfl ?_
      refine rl_gskip rfl rfl rfl rfl rfl rfl ?_
      refine rl_gskip rfl rfl rfl rfl rfl rfl ?_
      refine rl_gskip rfl rfl rfl rfl rfl rfl ?_
      refine rl_v rfl rfl rfl (ov_pick_t rfl rfl rfl) ?_
      refine rl_v rfl rfl rfl (ov_move rfl rfl) ?_
      refine rl_gskip rfl rfl rfl rfl rfl rfl ?_
      refine rl_gskip rfl rfl rfl rfl rfl rfl ?_
      refine rl_gskip rfl rfl rfl rfl rfl rfl ?_
      refine rl_gskip rfl rfl rfl rfl rfl rfl ?_
      refine rl_v rfl rfl rfl (ov_pick_t rfl rfl rfl) ?_
      refine rl_nil ?_
      refine run_cond_t rfl ?_
      exfalso; exact g2 rfl
    · refine rl_gv rfl rfl rfl rfl rfl (ov_loadW rfl Try.underlying37 rfl (by kernel_rfl) rfl hO33 2 rfl) ?_
      refine rl_gv rfl rfl rfl rfl rfl (ov_move rfl rfl) ?_
      refine rl_gcall callable_25 rfl rfl rfl rfl rfl rfl rfl rfl (isClearing_any to (some ⟨cb1, 0, none⟩) a10 n tc xc n x10 D cash p _ hv hc6 (by omega) (hIT.later hO33.below) (hIC.later hO33.below) (hr10.reads hO33 1 rfl)) (fun e36 w37 hp38 => ?_)
      obtain ⟨⟨bb, rfl, hbb⟩, hb1⟩ := hp38
      refine ⟨_, rfl, ?_⟩
      have hO39 := hO33.past hb1
      obtain rfl : bb = true := hbb.2 ⟨rfl, hp.rng, fun i i0 i1 => hp.fix i i0 i1 rfl⟩
      refine rl_gv rfl rfl rfl rfl rfl (ov_not rfl rfl) ?_
      refine rl_v rfl rfl rfl (ov_pick_f rfl rfl rfl) ?_
      refine rl_v rfl rfl rfl (ov_move rfl rfl) ?_
      first | refine rl_split_dec 70 rfl (fun g3 => ?_) (fun g3 => ?_) | refine rl_split 70 rfl (fun g3 => ?_) (fun g3 => ?_)
      · refine rl_gskip rfl rfl rfl rfl rfl rfl ?_
        refine rl_gskip rfl rfl rfl rfl rfl rfl ?_
        refine rl_gskip rfl rfl rfl rfl rfl rfl ?_
        refine rl_gskip rfl rfl rfl rfl rfl rfl ?_
        refine rl_v rfl rfl rfl (ov_pick_t rfl rfl rfl) ?_
        refine rl_v rfl rfl rfl (ov_move rfl rfl) ?_
        refine rl_gskip rfl rfl rfl rfl rfl rfl ?_
        refine rl_gskip rfl rfl rfl rfl rfl rfl ?_
        refine rl_gskip rfl rfl rfl rfl rfl rfl ?_
        refine rl_gskip rfl rfl rfl rfl rfl rfl ?_
        refine rl_v rfl rfl rfl (ov_pick_t rfl rfl rfl) ?_
        refine rl_nil ?_
        refine run_cond_t rfl ?_
        exfalso; cases g3
      · refine rl_gv rfl rfl rfl rfl rfl (ov_move rfl rfl) ?_
        refine rl_gv rfl rfl rfl rfl rfl (ov_len rfl Try.underlying23 rfl) ?_
        refine rl_gv rfl rfl rfl rfl rfl (ov_move rfl rfl) ?_
        refine rl_gv rfl rfl rfl rfl rfl (ov_neq rfl rfl rfl) ?_
        refine rl_v rfl rfl rfl (ov_pick_f rfl rfl rfl) ?_
        refine rl_v rfl rfl rfl (ov_move rfl rfl) ?_
        first | refine rl_split_dec 76 rfl (fun g4 => ?_) (fun g4 => ?_) | refine rl_split 76 rfl (fun g4 => ?_) (fun g4 => ?_)
        · refine rl_gskip rfl rfl rfl rfl rfl rfl ?_
          refine rl_gskip rfl rfl rfl rfl rfl rfl ?_
          refine rl_gskip rfl rfl rfl rfl rfl rfl ?_
          refine rl_gskip rfl rfl rfl rfl rfl rfl ?_
          refine rl_v rfl rfl rfl (ov_pick_t rfl rfl rfl) ?_
          refine rl_nil ?_
          refine run_cond_t rfl ?_
          exfalso; exact g4 rfl
        · refine rl_gv rfl rfl rfl rfl rfl (ov_move rfl rfl) ?_
          refine rl_gv rfl rfl rfl rfl rfl (ov_len rfl Try.underlying23 rfl) ?_
          refine rl_gv rfl rfl rfl rfl rfl (ov_move rfl rfl) ?_
          refine rl_gv rfl rfl rfl rfl rfl (ov_neq rfl rfl rfl) ?_
          refine rl_v rfl rfl rfl (ov_pick_f rfl rfl rfl) ?_
          refine rl_nil ?_
          first | refine run_cond_dec rfl (fun h7 => ?_) (fun h7 => ?_) | refine run_cond rfl (fun h7 => ?_) (fun h7 => ?_)
          · exfalso; exact h7 rfl
          · obtain ⟨b10, G10, rfl, hq101, hq102, rfl, hG10⟩ := hr10.asV hn1
            obtain ⟨b12, G12, rfl, hq121, hq122, rfl, hG12⟩ := hr12.asV hn1
            obtain ⟨A, C, RB, RO, gb, go, hga, hrow, hra, hel, _⟩ := hIT.open
            obtain ⟨qb, qo, hca, hcash'⟩ := hIC.open
            cases hca (by omega)
            obtain ⟨sb, so, hsa, hstart⟩ := h3'.open
            refine run_skip ?_
            refine run_seq ?_
            refine run_region ?_
            refine rl_v rfl rfl rfl (ov_assign rfl rfl) ?_
            refine rl_v rfl rfl rfl (ov_assign rfl rfl) ?_
            refine rl_v rfl rfl rfl (ov_assign rfl rfl) ?_
            refine rl_nil ?_
            refine run_seq ?_
            refine run_seq ?_
            refine run_region ?_
            refine rl_v rfl rfl rfl (ov_assign rfl rfl) ?_
            refine rl_nil ?_
            refine run_block ?_
            refine Run.keep [1, 5, 7, 8, 9, 10, 12, 14, 15, 16, 17] (F' := [(1, _), (5, _), (7, _), (8, _), (9, _), (10, _), (12, _), (14, _), (15, _), (16, _), (17, _)]) rfl ?_
            refine run_loop1 (fun (k : Int) => [(17, .int .i64 k), (14, .int .i64 (sm p k)), (15, .int .i64 (sm (rcv n D p) k)), (16, .int .i64 (sm (fun i => sm (fun j => min 1 (D i j)) n) k))]) [1, 5, 7, 8, 9, 10, 12] (fun (k : Int) (w42 : World) => 0 ≤ k ∧ k ≤ n ∧ Own w8.heap.size w8 w42 [some (vch b12 2 xcap G12), some (vch b10 2 x10 G10), some (lch b8 37 [.slice to n tc, .slice (some ⟨cb1, 0, none⟩) n xc]), some (lch b7 35 [.slice to n tc, .slice (some ⟨cb1, 0, none⟩) n xc])]) (fun (k : Int) => ((n : Int) - k).toNat) (0) ?_ (And.intro (by first | with_reducible rfl | exact slot_int rfl (by first | omega) | rfl) (And.intro (by first | with_reducible rfl | exact slot_int rfl (by first | omega) | rfl) (And.intro (by first | with_reducible rfl | exact slot_int rfl (by first | omega) | rfl) (And.intro (by first | with_reducible rfl | exact slot_int rfl (by first | omega) | rfl) (And.intro rfl (And.intro rfl (And.intro rfl (And.intro rfl (And.intro rfl (And.intro rfl (And.intro rfl trivial))))))))))) ?_
            · exact ⟨by omega, by omega, hO39⟩
            intro k w42 hIw42 ih43
            obtain ⟨hk0, hk1, hO⟩ := hIw42
            show Run _ _ _ _ [(17, _), (14, _), (15, _), (16, _), (1, _), (5, _), (7, _), (8, _), (9, _), (10, _), (12, _)] _ _
            refine run_seq ?_
            refine run_seq ?_
            refine run_region ?_
            refine rl_v rfl rfl rfl (ov_move rfl rfl) ?_
            refine rl_v rfl rfl rfl (ov_move rfl rfl) ?_
            refine rl_v rfl rfl rfl (ov_lss rfl rfl rfl) ?_
            refine rl_nil ?_
            first | refine run_cond_dec rfl (fun h8 => ?_) (fun h8 => ?_) | refine run_cond rfl (fun h8 => ?_) (fun h8 => ?_)
            · have hpr := hp.rng k hk0 h8
              have hor := ow_rng hv k
              have hrr := rcv_rng hv p hp.rng k
              have s1 : 0 ≤ sm p k := sm_nonneg fun i i0 i1 => (hp.rng i i0 (by omega)).1
              have s2 : sm p k ≤ k * 32000000 := sm_bound _ hk0 fun i i0 i1 => by have := (hp.rng i i0 (by omega)).2; have := (ow_rng hv i).2; omega
              have s3 : 0 ≤ sm (rcv n D p) k := sm_nonneg fun i i0 i1 => (rcv_rng hv p hp.rng i).1
              have s4 : sm (rcv n D p) k ≤ k * 32000000 := sm_bound _ hk0 fun i i0 i1 => (rcv_rng hv p hp.rng i).2
              have s5 : 0 ≤ sm (fun i => sm (fun j => min 1 (D i j)) n) k := sm_nonneg fun i _ _ => sm_nonneg fun j _ _ => by have := hv.lo i j; omega
              have s6 : sm (fun i => sm (fun j => min 1 (D i j)) n) k ≤ k * 32 := sm_bound _ hk0 fun i _ _ => by have := sm_bound (f := fun j => min 1 (D i j)) (k := n) 1 (by omega) (fun j _ _ => by omega); omega
              refine run_skip ?_
              refine run_seq ?_
              refine run_block ?_
              refine run_seq ?_
              refine run_region ?_
              refine rl_v rfl rfl rfl (ov_move rfl rfl) ?_
              refine rl_v rfl rfl rfl (ov_move rfl rfl) ?_
              refine rl_v rfl rfl rfl (ov_move rfl rfl) ?_
              refine rl_v rfl rfl rfl (ov_index1 rfl Try.underlying23 (by kernel_rfl) rfl rfl ⟨by omega, by omega⟩ (by first | rfl | exact hga (by omega) | exact hra _ (by omega) (by omega) (by omega))) ?_
              refine rl_v rfl rfl rfl (ov_load rfl Try.underlying2 rfl rfl (by first | exact (hO.cellI 1 rfl k hk0 (by omega)).trans (congrArg some (hG10 k hk0 h8)))) ?_
              refine rl_v rfl rfl rfl (ov_add rfl rfl rfl (by omega)) ?_
              refine rl_v rfl rfl rfl (ov_assign rfl rfl) ?_
              refine rl_nil ?_
              refine run_seq ?_
              refine run_region ?_
              refine rl_v rfl rfl rfl (ov_move rfl rfl) ?_
              refine rl_v rfl rfl rfl (ov_move rfl rfl) ?_
              refine rl_v rfl rfl rfl (ov_move rfl rfl) ?_
              refine rl_v rfl rfl rfl (ov_index1 rfl Try.underlying23 (by kernel_rfl) rfl rfl ⟨by omega, by omega⟩ (by first | rfl | exact hga (by omega) | exact hra _ (by omega) (by omega) (by omega))) ?_
              refine rl_v rfl rfl rfl (ov_load rfl Try.underlying2 rfl rfl (by first | exact (hO.cellI 0 rfl k hk0 (by omega)).trans (congrArg some (hG12 k hk0 h8)))) ?_
              refine rl_v rfl rfl rfl (ov_add rfl rfl rfl (by omega)) ?_
              refine rl_v rfl rfl rfl (ov_assign rfl rfl) ?_
              refine rl_nil ?_
              refine run_seq ?_
              refine run_region ?_
              refine rl_v rfl rfl rfl (ov_assign rfl rfl) ?_
              refine rl_nil ?_
              refine run_block ?_
              refine Run.keep [1, 5, 7, 8, 9, 10, 12, 14, 15, 16, 17, 18] (F' := [(1, _), (5, _), (7, _), (8, _), (9, _), (10, _), (12, _), (14, _), (15, _), (16, _), (17, _), (18, _)]) rfl ?_
              refine run_loop1 (fun (j : Int) => [(18, .int .i64 j), (16, .int .i64 (sm (fun i => sm (fun j => min 1 (D i j)) n) k + sm (fun j => min 1 (D k j)) j))]) [1, 5, 7, 8, 9, 10, 12, 14, 15, 17] (fun (j : Int) (w44 : World) => 0 ≤ j ∧ j ≤ n ∧ Own w8.heap.size w8 w44 [some (vch b12 2 xcap G12), some (vch b10 2 x10 G10), some (lch b8 37 [.slice to n tc, .slice (some ⟨cb1, 0, none⟩) n xc]), some (lch b7 35 [.slice to n tc, .slice (some ⟨cb1, 0, none⟩) n xc])]) (fun (j : Int) => ((n : Int) - j).toNat) (0) ?_ (And.intro (by first | with_reducible rfl | exact slot_int rfl (by first | omega) | rfl) (And.intro (by first | with_reducible rfl | exact slot_int rfl (by first | omega | (first | (rw [sm_zero, Int.add_zero]) | (rw [sm_succ _ hj0]; omega) | (rw [sm_succ _ hk0, show j = (n : Int) by omega]))) | rfl) (And.intro rfl (And.intro rfl (And.intro rfl (And.intro rfl (And.intro rfl (And.intro rfl (And.intro rfl (And.intro rfl (And.intro rfl (And.intro rfl trivial)))))))))))) ?_
              · exact ⟨by omega, by omega, hO⟩
              intro j w44 hIw44 ih45
              obtain ⟨hj0, hj1, hO2⟩ := hIw44
              show Run _ _ _ _ [(18, _), (16, _), (1, _), (5, _), (7, _), (8, _), (9, _), (10, _), (12, _), (14, _), (15, _), (17, _)] _ _
              refine run_seq ?_
              refine run_seq ?_
              refine run_region ?_
              refine rl_v rfl rfl rfl (ov_move rfl rfl) ?_
              refine rl_v rfl rfl rfl (ov_move rfl rfl) ?_
              refine rl_v rfl rfl rfl (ov_lss rfl rfl rfl) ?_
              refine rl_nil ?_
              first | refine run_cond_dec rfl (fun h9 => ?_) (fun h9 => ?_) | refine run_cond rfl (fun h9 => ?_) (fun h9 => ?_)
              · have s7 : 0 ≤ sm (fun j => min 1 (D k j)) j := sm_nonneg fun i _ _ => by have := hv.lo k i; omega
                have s8 : sm (fun j => min 1 (D k j)) j ≤ j * 1 := sm_bound _ hj0 fun i _ _ => by omega
                have hd0 := hv.lo k j
                refine run_skip ?_
                refine run_seq ?_
                refine run_block ?_
                refine run_region ?_
                refine rl_v rfl rfl rfl (ov_move rfl rfl) ?_
                refine rl_v rfl rfl rfl (ov_fieldS rfl Try.underlying35 rfl (fo := 0) rfl (by kernel_rfl) rfl) ?_
                refine rl_v rfl rfl rfl (ov_load rfl Try.underlying22 rfl rfl (by first | exact hrow _ hO2.below _ (by omega) (by omega) | exact hel _ hO2.below _ (by omega) (by omega) _ (by omega) (by omega) | exact hO2.cellI 0 rfl _ (by omega) (by omega) | exact hO2.cellL 0 rfl rfl | exact hO2.cellI 1 rfl _ (by omega) (by omega) | exact hO2.cellL 1 rfl rfl | exact hO2.cellI 2 rfl _ (by omega) (by omega) | exact hO2.cellL 2 rfl rfl | exact hO2.cellI 3 rfl _ (by omega) (by omega) | exact hO2.cellL 3 rfl rfl | exact hO2.cellI 4 rfl _ (by omega) (by omega) | exact hO2.cellL 4 rfl rfl | exact hO2.cellI 5 rfl _ (by omega) (by omega) | exact hO2.cellL 5 rfl rfl)) ?_
                refine rl_v rfl rfl rfl (ov_move rfl rfl) ?_
                refine rl_v rfl rfl rfl (ov_index1 rfl Try.underlying22 (by kernel_rfl) rfl rfl ⟨by omega, by omega⟩ (by first | rfl | exact hga (by omega) | exact hra _ (by omega) (by omega) (by omega))) ?_
                refine rl_v rfl rfl rfl (ov_load rfl Try.underlying23 rfl rfl (by first | exact hrow _ hO2.below _ (by omega) (by omega) | exact hel _ hO2.below _ (by omega) (by omega) _ (by omega) (by omega) | exact hO2.cellI 0 rfl _ (by omega) (by omega) | exact hO2.cellL 0 rfl rfl | exact hO2.cellI 1 rfl _ (by omega) (by omega) | exact hO2.cellL 1 rfl rfl | exact hO2.cellI 2 rfl _ (by omega) (by omega) | exact hO2.cellL 2 rfl rfl | exact hO2.cellI 3 rfl _ (by omega) (by omega) | exact hO2.cellL 3 rfl rfl | exact hO2.cellI 4 rfl _ (by omega) (by omega) | exact hO2.cellL 4 rfl rfl | exact hO2.cellI 5 rfl _ (by omega) (by omega) | exact hO2.cellL 5 rfl rfl)) ?_
                refine rl_v rfl rfl rfl (ov_move rfl rfl) ?_
                refine rl_v rfl rfl rfl (ov_index1 rfl Try.underlying23 (by kernel_rfl) rfl rfl ⟨by omega, by omega⟩ (by first | rfl | exact hga (by omega) | exact hra _ (by omega) (by omega) (by omega))) ?_
                refine rl_v rfl rfl rfl (ov_load rfl Try.underlying2 rfl rfl (by first | exact hrow _ hO2.below _ (by omega) (by omega) | exact hel _ hO2.below _ (by omega) (by omega) _ (by omega) (by omega) | exact hO2.cellI 0 rfl _ (by omega) (by omega) | exact hO2.cellL 0 rfl rfl | exact hO2.cellI 1 rfl _ (by omega) (by omega) | exact hO2.cellL 1 rfl rfl | exact hO2.cellI 2 rfl _ (by omega) (by omega) | exact hO2.cellL 2 rfl rfl | exact hO2.cellI 3 rfl _ (by omega) (by omega) | exact hO2.cellL 3 rfl rfl | exact hO2.cellI 4 rfl _ (by omega) (by omega) | exact hO2.cellL 4 rfl rfl | exact hO2.cellI 5 rfl _ (by omega) (by omega) | exact hO2.cellL 5 rfl rfl)) ?_
                refine rl_v rfl rfl rfl (ov_min rfl rfl rfl) ?_
                refine rl_v rfl rfl rfl (ov_add rfl rfl rfl (by omega)) ?_
                refine rl_v rfl rfl rfl (ov_assign rfl rfl) ?_
                refine rl_nil ?_
                refine run_inBlock ?_
                refine run_region ?_
                refine rl_v rfl rfl rfl (ov_move rfl rfl) ?_
                refine rl_v rfl rfl rfl (ov_add rfl rfl rfl (by omega)) ?_
                refine rl_v rfl rfl rfl (ov_assign rfl rfl) ?_
                refine rl_nil ?_
                refine Run.use (ih45 _ _ ?_ ?_) (And.intro (by first | with_reducible rfl | exact slot_int rfl (by first | omega) | rfl) (And.intro (by first | with_reducible rfl | exact slot_int rfl (by first | omega | (first | (rw [sm_zero, Int.add_zero]) | (rw [sm_succ _ hj0]; omega) | (rw [sm_succ _ hk0, show j = (n : Int) by omega]))) | rfl) (And.intro rfl (And.intro rfl (And.intro rfl (And.intro rfl (And.intro rfl (And.intro rfl (And.intro rfl (And.intro rfl (And.intro rfl (And.intro rfl trivial))))))))))))
                · first | omega | (dsimp only; omega)
                · exact ⟨by omega, by omega, hO2⟩
              · refine run_exit rfl ?_
                refine run_inBlock ?_
                refine run_region ?_
                refine rl_v rfl rfl rfl (ov_move rfl rfl) ?_
                refine rl_v rfl rfl rfl (ov_add rfl rfl rfl (by omega)) ?_
                refine rl_v rfl rfl rfl (ov_assign rfl rfl) ?_
                refine rl_nil ?_
                refine Run.use (ih43 _ _ ?_ ?_) (And.intro (by first | with_reducible rfl | exact slot_int rfl (by first | omega) | rfl) (And.intro (by first | with_reducible rfl | exact slot_int rfl (by first | omega | ((rw [sm_succ _ hk0]))) | rfl) (And.intro (by first | with_reducible rfl | exact slot_int rfl (by first | omega | ((rw [sm_succ _ hk0]))) | rfl) (And.intro (by first | with_reducible rfl | exact slot_int rfl (by first | omega | (first | (rw [sm_zero, Int.add_zero]) | (rw [sm_succ _ hj0]; omega) | (rw [sm_succ _ hk0, show j = (n : Int) by omega]))) | rfl) (And.intro rfl (And.intro rfl (And.intro rfl (And.intro rfl (And.intro rfl (And.intro rfl (And.intro rfl trivial)))))))))))
                · first | omega | (dsimp only; omega)
                · exact ⟨by omega, by omega, hO2⟩
            · have hkn : k = n := by omega
              subst hkn
              obtain ⟨hpaid1, hpaid2⟩ := all_paid hv hp.rng
              have t1 : 0 ≤ sm p n := sm_nonneg fun i i0 i1 => (hp.rng i i0 i1).1
              have t2 : sm p n ≤ n * 32000000 := sm_bound _ (by omega) fun i i0 i1 => by have := (hp.rng i i0 i1).2; have := (ow_rng hv i).2; omega
              have t3 : 0 ≤ sm (rcv n D p) n := sm_nonneg fun i i0 i1 => (rcv_rng hv p hp.rng i).1
              refine run_exit rfl ?_
              refine run_seq ?_
              refine run_seq ?_
              refine run_region ?_
              refine rl_v rfl rfl rfl (ov_move rfl rfl) ?_
              refine rl_v rfl rfl rfl (ov_move rfl rfl) ?_
              refine rl_v rfl rfl rfl (ov_gtr rfl rfl rfl) ?_
              refine rl_v rfl rfl rfl (ov_move rfl rfl) ?_
              first | refine rl_split_dec 118 rfl (fun g5 => ?_) (fun g5 => ?_) | refine rl_split 118 rfl (fun g5 => ?_) (fun g5 => ?_)
              · refine rl_gskip rfl rfl rfl rfl rfl rfl ?_
                refine rl_gskip rfl rfl rfl rfl rfl rfl ?_
                refine rl_gskip rfl rfl rfl rfl rfl rfl ?_
                refine rl_gskip rfl rfl rfl rfl rfl rfl ?_
                refine rl_gskip rfl rfl rfl rfl rfl rfl ?_
                refine rl_v rfl rfl rfl (ov_pick_t rfl rfl rfl) ?_
                refine rl_nil ?_
                refine run_cond_t rfl ?_
                exfalso; omega
              · refine rl_gv rfl rfl rfl rfl rfl (ov_move rfl rfl) ?_
                refine rl_gv rfl rfl rfl rfl rfl (ov_move rfl rfl) ?_
                refine rl_gv rfl rfl rfl rfl rfl (ov_sub rfl rfl rfl (by omega)) ?_
                refine rl_gv rfl rfl rfl rfl rfl (ov_move rfl rfl) ?_
                refine rl_gv rfl rfl rfl rfl rfl (ov_gtr rfl rfl rfl) ?_
                refine rl_v rfl rfl rfl (ov_pick_f rfl rfl rfl) ?_
                refine rl_nil ?_
                first | refine run_cond_dec rfl (fun h10 => ?_) (fun h10 => ?_) | refine run_cond rfl (fun h10 => ?_) (fun h10 => ?_)
                · exfalso; omega
                · refine run_skip ?_
                  refine run_seq ?_
                  refine run_region ?_
                  refine rl_v rfl rfl rfl (ov_fieldS rfl Try.underlying35 rfl (fo := 0) rfl (by kernel_rfl) rfl) ?_
                  refine rl_v rfl rfl rfl (ov_load rfl Try.underlying22 rfl rfl (by first | exact hrow _ hO.below _ (by omega) (by omega) | exact hel _ hO.below _ (by omega) (by omega) _ (by omega) (by omega) | exact hO.cellI 0 rfl _ (by omega) (by omega) | exact hO.cellL 0 rfl rfl | exact hO.cellI 1 rfl _ (by omega) (by omega) | exact hO.cellL 1 rfl rfl | exact hO.cellI 2 rfl _ (by omega) (by omega) | exact hO.cellL 2 rfl rfl | exact hO.cellI 3 rfl _ (by omega) (by omega) | exact hO.cellL 3 rfl rfl | exact hO.cellI 4 rfl _ (by omega) (by omega) | exact hO.cellL 4 rfl rfl | exact hO.cellI 5 rfl _ (by omega) (by omega) | exact hO.cellL 5 rfl rfl)) ?_
                  refine rl_call callable_27 rfl rfl rfl rfl rfl rfl (refOwes_any to n tc D _ hv (hIT.later hO.below)) (fun e47 w48 hp49 => ?_)
                  obtain ⟨b19, rfl, hO19⟩ := hp49
                  refine ⟨_, rfl, ?_⟩
                  have hO50 := hO.join hO19
                  have hO20 := (hO50.sub (H' := [some (vch b19 2 n (fun i => .int .i64 (ow n D i))), some (vch b10 2 x10 G10), some (lch b8 37 [.slice to n tc, .slice (some ⟨cb1, 0, none⟩) n xc]), some (lch b7 35 [.slice to n tc, .slice (some ⟨cb1, 0, none⟩) n xc])]) (.cons_cons _ (.cons _ (.refl _)))).nil_cons
                  refine rl_v rfl rfl rfl (ov_assign rfl rfl) ?_
                  refine rl_nil ?_
                  refine run_seq ?_
                  refine run_region ?_
                  refine rl_v rfl rfl rfl (ov_assign rfl rfl) ?_
                  refine rl_nil ?_
                  refine run_seq ?_
                  refine run_seq ?_
                  refine run_region ?_
                  refine rl_v rfl rfl rfl (ov_assign rfl rfl) ?_
                  refine rl_nil ?_
                  refine run_block ?_
                  refine Run.keep [1, 5, 7, 8, 9, 10, 19, 20, 21] (F' := [(1, _), (5, _), (7, _), (8, _), (9, _), (10, _), (19, _), (20, _), (21, _)]) rfl ?_
                  refine run_loop5 (fun (k : Int) (m : Nat) (vq : Value) (g : Int → Int) (cq : Option Blk) => [(21, .int .i64 k), (20, vq)]) [1, 5, 7, 8, 9, 10, 19] (fun (k : Int) (m : Nat) (vq : Value) (g : Int → Int) (cq : Option Blk) (w51 : World) => k = m ∧ k ≤ n ∧ IRow vq 2 m (fun i => .int .i64 (g i)) cq ∧ (∀ i : Int, 0 ≤ i → i < m → 0 ≤ g i ∧ g i ≤ ow n D i) ∧ Own w8.heap.size w8 w51 [cq, some (vch b19 2 n (fun i => .int .i64 (ow n D i))), some (vch b10 2 x10 G10), some (lch b8 37 [.slice to n tc, .slice (some ⟨cb1, 0, none⟩) n xc]), some (lch b7 35 [.slice to n tc, .slice (some ⟨cb1, 0, none⟩) n xc])]) (fun (k : Int) (m : Nat) (vq : Value) (g : Int → Int) (cq : Option Blk) => n - m) (0) (0) (.slice none 0 0) (fun _ => 0) (none) ?_ (And.intro (by first | with_reducible rfl | exact slot_int rfl (by first | omega) | rfl) (And.intro rfl (And.intro rfl (And.intro rfl (And.intro rfl (And.intro rfl (And.intro rfl (And.intro rfl (And.intro rfl trivial))))))))) ?_
                  · exact ⟨rfl, by omega, IRow.nil _ _, fun i i0 i1 => by omega, hO20⟩
                  intro k m vq g cq w51 hIw51 ih52
                  obtain ⟨hk, hk1, hr, hg, hO⟩ := hIw51
                  show Run _ _ _ _ [(21, _), (20, _), (1, _), (5, _), (7, _), (8, _), (9, _), (10, _), (19, _)] _ _
                  refine run_seq ?_
                  refine run_seq ?_
                  refine run_region ?_
                  refine rl_v rfl rfl rfl (ov_move rfl rfl) ?_
                  refine rl_v rfl rfl rfl (ov_move rfl rfl) ?_
                  refine rl_v rfl rfl rfl (ov_lss rfl rfl rfl) ?_
                  refine rl_nil ?_
                  first | refine run_cond_dec rfl (fun h11 => ?_) (fun h11 => ?_) | refine run_cond rfl (fun h11 => ?_) (fun h11 => ?_)
                  · have hor := ow_rng hv k
                    have hos := ow_small hv hD60 k
                    refine run_skip ?_
                    refine run_seq ?_
                    refine run_block ?_
                    refine run_seq ?_
                    refine run_region ?_
                    refine rl_v rfl rfl rfl (ov_assign rfl rfl) ?_
                    refine rl_nil ?_
                    refine run_seq ?_
                    refine run_seq ?_
                    refine run_region ?_
                    refine rl_v rfl rfl rfl (ov_move rfl rfl) ?_
                    refine rl_v rfl rfl rfl (ov_move rfl rfl) ?_
                    refine rl_v rfl rfl rfl (ov_len rfl Try.underlying23 rfl) ?_
                    refine rl_v rfl rfl rfl (ov_lss rfl rfl rfl) ?_
                    refine rl_nil ?_
                    refine Run.keep [1, 5, 7, 8, 9, 10, 19, 20, 21, 22, 136] (F' := [(1, _), (5, _), (7, _), (8, _), (9, _), (10, _), (19, _), (20, _), (21, _), (22, _), (136, _)]) rfl ?_
                    refine run_join1 (fun (x : Int) => [(22, .int .i64 x)]) [1, 5, 7, 8, 9, 10, 19, 20, 21] (fun (x : Int) (w53 : World) => 0 ≤ x ∧ x ≤ ow n D k ∧ Own w8.heap.size w8 w53 [cq, some (vch b19 2 n (fun i => .int .i64 (ow n D i))), some (vch b10 2 x10 G10), some (lch b8 37 [.slice to n tc, .slice (some ⟨cb1, 0, none⟩) n xc]), some (lch b7 35 [.slice to n tc, .slice (some ⟨cb1, 0, none⟩) n xc])]) (fun hk54 => ?_) ?_
                    · first | refine run_cond_dec rfl (fun h12 => ?_) (fun h12 => ?_) | refine run_cond rfl (fun h12 => ?_) (fun h12 => ?_)
                      · refine run_quiet mixed (by kernel_rfl) ?_
                        refine rq_v rfl rfl rfl (fun _ => ov_move rfl rfl) ?_
                        refine rq_v rfl rfl rfl (fun _ => ov_move rfl rfl) ?_
                        refine rq_v rfl rfl rfl (fun _ => ov_index1 rfl Try.underlying23 (by kernel_rfl) rfl rfl ⟨by omega, by omega⟩ (by first | rfl | exact hsa (by omega))) ?_
                        refine rq_v rfl rfl rfl (fun _ => ov_load rfl Try.underlying2 rfl rfl (by show World.cell? w51 _ = _; first | exact hstart _ hO.below _ (by omega) (by omega) | exact hcash' _ hO.below _ (by omega) (by omega) | exact hO.cellI 0 rfl _ (by omega) (by omega) | exact hO.cellL 0 rfl rfl | exact hO.cellI 1 rfl _ (by omega) (by omega) | exact hO.cellL 1 rfl rfl | exact hO.cellI 2 rfl _ (by omega) (by omega) | exact hO.cellL 2 rfl rfl | exact hO.cellI 3 rfl _ (by omega) (by omega) | exact hO.cellL 3 rfl rfl | exact hO.cellI 4 rfl _ (by omega) (by omega) | exact hO.cellL 4 rfl rfl | exact hO.cellI 5 rfl _ (by omega) (by omega) | exact hO.cellL 5 rfl rfl)) ?_
                        refine rq_v rfl rfl rfl (fun _ => ov_conv rfl Try.underlying2 Try.underlying46 rfl) ?_
                        refine rq_v rfl rfl rfl (fun _ => ov_move rfl rfl) ?_
                        refine rq_v rfl rfl rfl (fun _ => ov_move rfl rfl) ?_
                        refine rq_v rfl rfl rfl (fun _ => ov_index1 rfl Try.underlying23 (by kernel_rfl) rfl rfl ⟨by omega, by omega⟩ (by first | rfl | exact hsa (by omega))) ?_
                        refine rq_v rfl rfl rfl (fun _ => ov_load rfl Try.underlying2 rfl rfl (by show World.cell? w51 _ = _; first | exact hO.cellI 1 rfl k (by omega) (by omega))) ?_
                        refine rq_v rfl rfl rfl (fun _ => ov_add rfl rfl rfl (by omega)) ?_
                        refine rq_v rfl rfl rfl (fun _ => ov_conv rfl Try.underlying2 Try.underlying46 rfl) ?_
                        refine rq_v rfl rfl rfl (fun _ => ov_rem rfl rfl rfl (wrap_u64_nonneg _) (wrap_u64_pos _ hor.1 (by omega))) ?_
                        refine rq_v rfl rfl rfl (fun _ => ov_conv rfl Try.underlying46 Try.underlying2 rfl) ?_
                        refine rq_v rfl rfl rfl (fun _ => ov_assign rfl rfl) ?_
                        refine rq_nil (fun n55 => ?_)
                        have hO57 := hO.drewN n55
                        generalize World.drewN w51 n55 = w56 at hO57 ⊢
                        refine Run.use (hk54 _ _ ?_) (And.intro (by first | with_reducible rfl | exact slot_int rfl (by first | omega) | rfl) (And.intro rfl (And.intro rfl (And.intro rfl (And.intro rfl (And.intro rfl (And.intro rfl (And.intro rfl (And.intro rfl (And.intro rfl trivial))))))))))
                        exact ⟨(mod_le _ _ hor.1 (by omega)).1, (mod_le _ _ hor.1 (by omega)).2, hO57⟩
                      · refine run_skip ?_
                        refine Run.use (hk54 _ _ ?_) (And.intro (by first | with_reducible rfl | exact slot_int rfl (by first | omega) | rfl) (And.intro rfl (And.intro rfl (And.intro rfl (And.intro rfl (And.intro rfl (And.intro rfl (And.intro rfl (And.intro rfl (And.intro rfl trivial))))))))))
                        exact ⟨by omega, by omega, hO⟩
                    · intro x w53 hJw53
                      obtain ⟨hx0, hx1, hO3⟩ := hJw53
                      show Run _ _ _ _ [(22, _), (1, _), (5, _), (7, _), (8, _), (9, _), (10, _), (19, _), (20, _), (21, _)] _ _
                      refine run_region ?_
                      refine rl_v rfl rfl rfl (ov_move rfl rfl) ?_
                      refine rl_v rfl rfl rfl (ov_move rfl rfl) ?_
                      refine rl_appI rfl rfl rfl rfl rfl rfl rfl rfl Try.underlying23 info_2 rfl hO3 0 hr rfl rfl rfl ⟨by omega, by omega⟩ (fun v5 c5 w58 hO59 hr5 hs60 => ?_)
                      refine rl_v rfl rfl rfl (ov_assign rfl rfl) ?_
                      refine rl_nil ?_
                      refine run_inBlock ?_
                      refine run_region ?_
                      refine rl_v rfl rfl rfl (ov_move rfl rfl) ?_
                      refine rl_v rfl rfl rfl (ov_add rfl rfl rfl (by omega)) ?_
                      refine rl_v rfl rfl rfl (ov_assign rfl rfl) ?_
                      refine rl_nil ?_
                      refine Run.use (ih52 (k + 1) (m + 1) (v5) (upd g m x) (c5) _ ?_ ?_) (And.intro (by first | with_reducible rfl | exact slot_int rfl (by first | omega) | rfl) (And.intro rfl (And.intro rfl (And.intro rfl (And.intro rfl (And.intro rfl (And.intro rfl (And.intro rfl (And.intro rfl trivial)))))))))
                      · first | omega | (dsimp only; omega)
                      · exact ⟨by omega, by omega, hr5, fun i i0 i1 => by unfold upd; split; (rename_i e; rw [e, ← hk]; exact ⟨hx0, hx1⟩); exact hg i i0 (by omega), hO59⟩
                  · have hmn : n = m := by omega
                    subst hmn
                    obtain ⟨aq, capq, rfl⟩ := hr.val
                    obtain ⟨bq, Gq, rfl, hqq1, hqq2, rfl, hGq⟩ := hr.asV hn1
                    refine run_exit rfl ?_
                    refine run_seq ?_
                    refine run_seq ?_
                    refine run_region ?_
                    refine rl_v rfl rfl rfl (ov_assign rfl rfl) ?_
                    refine rl_nil ?_
                    refine run_block ?_
                    refine Run.keep [5, 7, 8, 9, 10, 19, 20, 23] (F' := [(5, _), (7, _), (8, _), (9, _), (10, _), (19, _), (20, _), (23, _)]) rfl ?_
                    refine run_loop3 (fun (k : Int) (G : Int → Value) (g : Int → Int) => [(23, .int .i64 k)]) [5, 7, 8, 9, 10, 19, 20] (fun (k : Int) (G : Int → Value) (g : Int → Int) (w61 : World) => 0 ≤ k ∧ k ≤ 400 ∧ (∀ j : Int, 0 ≤ j → j < n → G j = .int .i64 (g j)) ∧ (∀ i : Int, 0 ≤ i → i < n → 0 ≤ g i ∧ g i ≤ ow n D i) ∧ Own w8.heap.size w8 w61 [some (vch bq 2 capq G), some (vch b19 2 n (fun i => .int .i64 (ow n D i))), some (vch b10 2 x10 G10), some (lch b8 37 [.slice to n tc, .slice (some ⟨cb1, 0, none⟩) n xc]), some (lch b7 35 [.slice to n tc, .slice (some ⟨cb1, 0, none⟩) n xc])]) (fun (k : Int) (G : Int → Value) (g : Int → Int) => (400 - k).toNat) (0) (Gq) (g) ?_ (And.intro (by first | with_reducible rfl | exact slot_int rfl (by first | omega) | rfl) (And.intro rfl (And.intro rfl (And.intro rfl (And.intro rfl (And.intro rfl (And.intro rfl (And.intro rfl trivial)))))))) ?_
                    · exact ⟨by omega, by omega, hGq, hg, hO⟩
                    intro k G g w61 hIw61 ih62
                    obtain ⟨hk0, hk1, hG, hg, hO⟩ := hIw61
                    show Run _ _ _ _ [(23, _), (5, _), (7, _), (8, _), (9, _), (10, _), (19, _), (20, _)] _ _
                    refine run_seq ?_
                    refine run_seq ?_
                    refine run_region ?_
                    refine rl_v rfl rfl rfl (ov_move rfl rfl) ?_
                    refine rl_v rfl rfl rfl (ov_lss rfl rfl rfl) ?_
                    refine rl_nil ?_
                    first | refine run_cond_dec rfl (fun h13 => ?_) (fun h13 => ?_) | refine run_cond rfl (fun h13 => ?_) (fun h13 => ?_)
                    · refine run_skip ?_
                      refine run_seq ?_
                      refine run_block ?_
                      refine run_seq ?_
                      refine run_region ?_
                      refine rl_v rfl rfl rfl (ov_fieldS rfl Try.underlying35 rfl (fo := 0) rfl (by kernel_rfl) rfl) ?_
                      refine rl_v rfl rfl rfl (ov_load rfl Try.underlying22 rfl rfl (by first | exact hO.cellL 4 rfl rfl)) ?_
                      refine rl_v rfl rfl rfl (ov_move rfl rfl) ?_
                      refine rl_call callable_24 rfl rfl rfl rfl rfl rfl (refReceived_any to _ n tc n capq D g _ hv (Nat.le_refl _) hg (hIT.later hO.below) (((hO.readsI 0 rfl).take hqq1).congr hG)) (fun e63 w64 hp65 => ?_)
                      obtain ⟨b24, rfl, hO24⟩ := hp65
                      refine ⟨_, rfl, ?_⟩
                      have hO66 := hO.join hO24
                      refine rl_v rfl rfl rfl (ov_assign rfl rfl) ?_
                      refine rl_nil ?_
                      refine run_seq ?_
                      refine run_region ?_
                      refine rl_v rfl rfl rfl (ov_assign rfl rfl) ?_
                      refine rl_nil ?_
                      refine run_block ?_
                      refine Run.keep [5, 7, 8, 9, 10, 19, 20, 23, 24, 25] (F' := [(5, _), (7, _), (8, _), (9, _), (10, _), (19, _), (20, _), (23, _), (24, _), (25, _)]) rfl ?_
                      refine run_loop3 (fun (j : Int) (G2 : Int → Value) (g2 : Int → Int) => [(25, .int .i64 j)]) [5, 7, 8, 9, 10, 19, 20, 23, 24] (fun (j : Int) (G2 : Int → Value) (g2 : Int → Int) (w67 : World) => 0 ≤ j ∧ j ≤ n ∧ (∀ j : Int, 0 ≤ j → j < n → G2 j = .int .i64 (g2 j)) ∧ (∀ i : Int, 0 ≤ i → i < n → 0 ≤ g2 i ∧ g2 i ≤ ow n D i) ∧ Own w8.heap.size w8 w67 [some (vch b24 2 n (fun i => .int .i64 (rcv n D g i))), some (vch bq 2 capq G2), some (vch b19 2 n (fun i => .int .i64 (ow n D i))), some (vch b10 2 x10 G10), some (lch b8 37 [.slice to n tc, .slice (some ⟨cb1, 0, none⟩) n xc]), some (lch b7 35 [.slice to n tc, .slice (some ⟨cb1, 0, none⟩) n xc])]) (fun (j : Int) (G2 : Int → Value) (g2 : Int → Int) => ((n : Int) - j).toNat) (0) (G) (g) ?_ (And.intro (by first | with_reducible rfl | exact slot_int rfl (by first | omega) | rfl) (And.intro rfl (And.intro rfl (And.intro rfl (And.intro rfl (And.intro rfl (And.intro rfl (And.intro rfl (And.intro rfl (And.intro rfl trivial)))))))))) ?_
                      · exact ⟨by omega, by omega, hG, hg, hO66⟩
                      intro j G2 g2 w67 hIw67 ih68
                      obtain ⟨hj0, hj1, hG2, hg2, hO2⟩ := hIw67
                      show Run _ _ _ _ [(25, _), (5, _), (7, _), (8, _), (9, _), (10, _), (19, _), (20, _), (23, _), (24, _)] _ _
                      refine run_seq ?_
                      refine run_seq ?_
                      refine run_region ?_
                      refine rl_v rfl rfl rfl (ov_move rfl rfl) ?_
                      refine rl_v rfl rfl rfl (ov_move rfl rfl) ?_
                      refine rl_v rfl rfl rfl (ov_lss rfl rfl rfl) ?_
                      refine rl_nil ?_
                      first | refine run_cond_dec rfl (fun h14 => ?_) (fun h14 => ?_) | refine run_cond rfl (fun h14 => ?_) (fun h14 => ?_)
                      · have hor := ow_rng hv j
                        have hrr := rcv_rng hv g hg j
                        have hcj := hcash j
                        refine run_skip ?_
                        refine run_seq ?_
                        refine run_block ?_
                        refine run_tail 18 mixed (by kernel_rfl) ?_
                        have hO70 := hO2.drew
                        generalize World.drew w67 = w69 at hO70 ⊢
                        refine rt_v rfl rfl rfl (ov_move rfl rfl) ?_
                        refine rt_v rfl rfl rfl (ov_move rfl rfl) ?_
                        refine rt_v rfl rfl rfl (ov_move rfl rfl) ?_
                        refine rt_v rfl rfl rfl (ov_move rfl rfl) ?_
                        refine rt_v rfl rfl rfl (ov_index1 rfl Try.underlying23 (by kernel_rfl) rfl rfl ⟨by omega, by omega⟩ (by first | rfl | exact hsa (by omega))) ?_
                        refine rt_v rfl rfl rfl (ov_load rfl Try.underlying2 rfl rfl (by first | exact hO70.cellI 2 rfl j hj0 (by omega))) ?_
                        refine rt_v rfl rfl rfl (ov_fieldS rfl Try.underlying35 rfl (fo := 1) rfl (by kernel_rfl) rfl) ?_
                        refine rt_v rfl rfl rfl (ov_load rfl Try.underlying23 rfl rfl (by first | exact hO70.cellL 5 rfl rfl)) ?_
                        refine rt_v rfl rfl rfl (ov_move rfl rfl) ?_
                        refine rt_v rfl rfl rfl (ov_index1 rfl Try.underlying23 (by kernel_rfl) rfl rfl ⟨by omega, by omega⟩ (by first | rfl | exact hsa (by omega))) ?_
                        refine rt_v rfl rfl rfl (ov_load rfl Try.underlying2 rfl rfl (by first | exact hstart _ hO70.below _ (by omega) (by omega) | exact hcash' _ hO70.below _ (by omega) (by omega) | exact hO70.cellI 0 rfl _ (by omega) (by omega) | exact hO70.cellL 0 rfl rfl | exact hO70.cellI 1 rfl _ (by omega) (by omega) | exact hO70.cellL 1 rfl rfl | exact hO70.cellI 2 rfl _ (by omega) (by omega) | exact hO70.cellL 2 rfl rfl | exact hO70.cellI 3 rfl _ (by omega) (by omega) | exact hO70.cellL 3 rfl rfl | exact hO70.cellI 4 rfl _ (by omega) (by omega) | exact hO70.cellL 4 rfl rfl | exact hO70.cellI 5 rfl _ (by omega) (by omega) | exact hO70.cellL 5 rfl rfl)) ?_
                        refine rt_v rfl rfl rfl (ov_move rfl rfl) ?_
                        refine rt_v rfl rfl rfl (ov_move rfl rfl) ?_
                        refine rt_v rfl rfl rfl (ov_index1 rfl Try.underlying23 (by kernel_rfl) rfl rfl ⟨by omega, by omega⟩ (by first | rfl | exact hsa (by omega))) ?_
                        refine rt_v rfl rfl rfl (ov_load rfl Try.underlying2 rfl rfl (by first | exact hO70.cellI 0 rfl j hj0 (by omega))) ?_
                        refine rt_v rfl rfl rfl (ov_add rfl rfl rfl (by omega)) ?_
                        refine rt_v rfl rfl rfl (ov_min rfl rfl rfl) ?_
                        refine rt_v rfl rfl rfl (ov_index1 rfl Try.underlying23 (by kernel_rfl) rfl rfl ⟨by omega, by omega⟩ (by first | rfl | exact hsa (by omega))) ?_
                        refine rt_nil ?_
                        refine rl_ow rfl (ow_store rfl rfl (by kernel_rfl) hO70 1 rfl rfl ⟨by omega, by omega⟩ rfl rfl) ?_
                        rintro _ w71 ⟨rfl, hO72, hs73⟩
                        refine rl_nil ?_
                        refine run_inBlock ?_
                        refine run_region ?_
                        refine rl_v rfl rfl rfl (ov_move rfl rfl) ?_
                        refine rl_v rfl rfl rfl (ov_add rfl rfl rfl (by omega)) ?_
                        refine rl_v rfl rfl rfl (ov_assign rfl rfl) ?_
                        refine rl_nil ?_
                        refine Run.use (ih68 (j + 1) (upd G2 j (.int .i64 (min (ow n D j) (cash j + rcv n D g j)))) (upd g2 j (min (ow n D j) (cash j + rcv n D g j))) _ ?_ ?_) (And.intro (by first | with_reducible rfl | exact slot_int rfl (by first | omega) | rfl) (And.intro rfl (And.intro rfl (And.intro rfl (And.intro rfl (And.intro rfl (And.intro rfl (And.intro rfl (And.intro rfl (And.intro rfl trivial))))))))))
                        · first | omega | (dsimp only; omega)
                        · exact ⟨by omega, by omega, fun i i0 i1 => by unfold upd; split; rfl; exact hG2 i i0 i1, fun i i0 i1 => by unfold upd; split; (rename_i e; rw [e]; omega); exact hg2 i i0 i1, hO72⟩
                      · refine run_exit rfl ?_
                        refine run_inBlock ?_
                        refine run_region ?_
                        refine rl_v rfl rfl rfl (ov_move rfl rfl) ?_
                        refine rl_v rfl rfl rfl (ov_add rfl rfl rfl (by omega)) ?_
                        refine rl_v rfl rfl rfl (ov_assign rfl rfl) ?_
                        refine rl_nil ?_
                        refine Run.use (ih62 (k + 1) (G2) (g2) _ ?_ ?_) (And.intro (by first | with_reducible rfl | exact slot_int rfl (by first | omega) | rfl) (And.intro rfl (And.intro rfl (And.intro rfl (And.intro rfl (And.intro rfl (And.intro rfl (And.intro rfl trivial))))))))
                        · first | omega | (dsimp only; omega)
                        · exact ⟨by omega, by omega, hG2, hg2, hO2.tail⟩
                    · refine run_exit rfl ?_
                      refine run_seq ?_
                      refine run_seq ?_
                      refine run_region ?_
                      refine rl_v rfl rfl rfl (ov_loadW rfl Try.underlying37 rfl (by kernel_rfl) rfl hO 3 rfl) ?_
                      refine rl_v rfl rfl rfl (ov_move rfl rfl) ?_
                      refine rl_call callable_25 rfl rfl rfl rfl rfl rfl (isClearing_any to (some ⟨cb1, 0, none⟩) _ n tc xc n capq D cash g _ hv hc6 (by omega) (hIT.later hO.below) (hIC.later hO.below) (((hO.readsI 0 rfl).take hqq1).congr hG)) (fun e74 w75 hp76 => ?_)
                      obtain ⟨⟨b2, rfl, hb2⟩, hb3⟩ := hp76
                      refine ⟨_, rfl, ?_⟩
                      have hO77 := hO.past hb3
                      refine rl_nil ?_
                      refine Run.keep [5, 7, 8, 9, 10, 20, 187] (F' := [(5, _), (7, _), (8, _), (9, _), (10, _), (20, _), (187, _)]) rfl ?_
                      refine run_join1 (fun (z : Int) => []) [5, 7, 8, 9, 10] (fun (z : Int) (w78 : World) => (0 : Int) ≤ 0 ∧ Own w8.heap.size w8 w78 [some (vch bq 2 capq G), some (vch b19 2 n (fun i => .int .i64 (ow n D i))), some (vch b10 2 x10 G10), some (lch b8 37 [.slice to n tc, .slice (some ⟨cb1, 0, none⟩) n xc]), some (lch b7 35 [.slice to n tc, .slice (some ⟨cb1, 0, none⟩) n xc])]) (fun hk79 => ?_) ?_
                      · first | refine run_cond_dec rfl (fun h15 => ?_) (fun h15 => ?_) | refine run_cond rfl (fun h15 => ?_) (fun h15 => ?_)
                        · have hcl := hb2.1 h15
                          have htop := hp.top g hg (fun i i0 i1 _ => Int.le_of_eq (hcl.2.2 i i0 i1))
                          refine run_seq ?_
                          refine run_region ?_
                          refine rl_v rfl rfl rfl (ov_assign rfl rfl) ?_
                          refine rl_nil ?_
                          refine run_block ?_
                          refine Run.keep [5, 7, 8, 9, 10, 20, 26] (F' := [(5, _), (7, _), (8, _), (9, _), (10, _), (20, _), (26, _)]) rfl ?_
                          refine run_loop1 (fun (k2 : Int) => [(26, .int .i64 k2)]) [5, 7, 8, 9, 10, 20] (fun (k2 : Int) (w80 : World) => 0 ≤ k2 ∧ k2 ≤ n ∧ Own w8.heap.size w8 w80 [some (vch bq 2 capq G), some (vch b19 2 n (fun i => .int .i64 (ow n D i))), some (vch b10 2 x10 G10), some (lch b8 37 [.slice to n tc, .slice (some ⟨cb1, 0, none⟩) n xc]), some (lch b7 35 [.slice to n tc, .slice (some ⟨cb1, 0, none⟩) n xc])]) (fun (k2 : Int) => ((n : Int) - k2).toNat) (0) ?_ (And.intro (by first | with_reducible rfl | exact slot_int rfl (by first | omega) | rfl) (And.intro rfl (And.intro rfl (And.intro rfl (And.intro rfl (And.intro rfl (And.intro rfl trivial))))))) ?_
                          · exact ⟨by omega, by omega, hO77⟩
                          intro k2 w80 hIw80 ih81
                          obtain ⟨hk20, hk21, hO⟩ := hIw80
                          show Run _ _ _ _ [(26, _), (5, _), (7, _), (8, _), (9, _), (10, _), (20, _)] _ _
                          refine run_seq ?_
                          refine run_seq ?_
                          refine run_region ?_
                          refine rl_v rfl rfl rfl (ov_move rfl rfl) ?_
                          refine rl_v rfl rfl rfl (ov_move rfl rfl) ?_
                          refine rl_v rfl rfl rfl (ov_lss rfl rfl rfl) ?_
                          refine rl_nil ?_
                          first | refine run_cond_dec rfl (fun h16 => ?_) (fun h16 => ?_) | refine run_cond rfl (fun h16 => ?_) (fun h16 => ?_)
                          · have ht2 := htop k2 hk20 h16
                            refine run_skip ?_
                            refine run_seq ?_
                            refine run_block ?_
                            refine run_seq ?_
                            refine run_quiet mixed (by kernel_rfl) ?_
                            refine rq_v rfl rfl rfl (fun _ => ov_move rfl rfl) ?_
                            refine rq_v rfl rfl rfl (fun _ => ov_move rfl rfl) ?_
                            refine rq_v rfl rfl rfl (fun _ => ov_index1 rfl Try.underlying23 (by kernel_rfl) rfl rfl ⟨by omega, by omega⟩ (by first | rfl | exact hsa (by omega))) ?_
                            refine rq_v rfl rfl rfl (fun _ => ov_load rfl Try.underlying2 rfl rfl (by show World.cell? w80 _ = _; first | exact (hO.cellI 0 rfl k2 hk20 (by omega)).trans (congrArg some (hG k2 hk20 h16)))) ?_
                            refine rq_v rfl rfl rfl (fun _ => ov_move rfl rfl) ?_
                            refine rq_v rfl rfl rfl (fun _ => ov_move rfl rfl) ?_
                            refine rq_v rfl rfl rfl (fun _ => ov_index1 rfl Try.underlying23 (by kernel_rfl) rfl rfl ⟨by omega, by omega⟩ (by first | rfl | exact hsa (by omega))) ?_
                            refine rq_v rfl rfl rfl (fun _ => ov_load rfl Try.underlying2 rfl rfl (by show World.cell? w80 _ = _; first | exact (hO.cellI 2 rfl k2 hk20 (by omega)).trans (congrArg some (hG10 k2 hk20 h16)))) ?_
                            refine rq_v rfl rfl rfl (fun _ => ov_gtr rfl rfl rfl) ?_
                            refine rq_nil (fun n82 => ?_)
                            have hO84 := hO.drewN n82
                            generalize World.drewN w80 n82 = w83 at hO84 ⊢
                            first | refine run_cond_dec rfl (fun h17 => ?_) (fun h17 => ?_) | refine run_cond rfl (fun h17 => ?_) (fun h17 => ?_)
                            · exfalso; omega
                            · refine run_skip ?_
                              refine run_inBlock ?_
                              refine run_region ?_
                              refine rl_v rfl rfl rfl (ov_move rfl rfl) ?_
                              refine rl_v rfl rfl rfl (ov_add rfl rfl rfl (by omega)) ?_
                              refine rl_v rfl rfl rfl (ov_assign rfl rfl) ?_
                              refine rl_nil ?_
                              refine Run.use (ih81 _ _ ?_ ?_) (And.intro (by first | with_reducible rfl | exact slot_int rfl (by first | omega) | rfl) (And.intro rfl (And.intro rfl (And.intro rfl (And.intro rfl (And.intro rfl (And.intro rfl trivial)))))))
                              · first | omega | (dsimp only; omega)
                              · exact ⟨by omega, by omega, hO84⟩
                          · refine run_exit rfl ?_
                            refine Run.use (hk79 (0) _ ?_) (And.intro rfl (And.intro rfl (And.intro rfl (And.intro rfl (And.intro rfl trivial)))))
                            exact ⟨by omega, hO⟩
                        · refine run_skip ?_
                          refine Run.use (hk79 (0) _ ?_) (And.intro rfl (And.intro rfl (And.intro rfl (And.intro rfl (And.intro rfl trivial)))))
                          exact ⟨by omega, hO77⟩
                      · intro z w78 hJw78
                        obtain ⟨hz, hO3⟩ := hJw78
                        show Run _ _ _ _ [(5, _), (7, _), (8, _), (9, _), (10, _)] _ _
                        have hO5 := hO3.sub (H' := [some (vch b10 2 x10 G10), some (lch b8 37 [.slice to n tc, .slice (some ⟨cb1, 0, none⟩) n xc]), some (lch b7 35 [.slice to n tc, .slice (some ⟨cb1, 0, none⟩) n xc])]) (.cons _ (.cons _ (.refl _)))
                        refine run_seq ?_
                        refine run_region ?_
                        refine rl_v rfl rfl rfl (ov_loadW rfl Try.underlying37 rfl (by kernel_rfl) rfl hO5 1 rfl) ?_
                        refine rl_call callable_35 rfl rfl rfl rfl rfl rfl (waves_any to (some ⟨cb1, 0, none⟩) n tc xc D cash _ hv hc6 (hIT.later hO5.below) (hIC.later hO5.below)) (fun e85 w86 hp87 => ?_)
                        obtain ⟨K, v27, H27, rfl, hK, hKn, hT27, hO27⟩ := hp87
                        refine ⟨_, rfl, ?_⟩
                        have hO88 := hO5.join hO27
                        obtain ⟨a27, x27, rfl⟩ := hT27.val
                        have hO28 := hO88.perm (H' := some (vch b10 2 x10 G10) :: some (lch b8 37 [.slice to n tc, .slice (some ⟨cb1, 0, none⟩) n xc]) :: some (lch b7 35 [.slice to n tc, .slice (some ⟨cb1, 0, none⟩) n xc]) :: H27) List.perm_append_comm
                        refine rl_v rfl rfl rfl (ov_move rfl rfl) ?_
                        refine rl_v rfl rfl rfl (ov_extract rfl rfl (by rfl)) ?_
                        refine rl_v rfl rfl rfl (ov_extract rfl rfl (by rfl)) ?_
                        refine rl_v rfl rfl rfl (ov_assign rfl rfl) ?_
                        refine rl_v rfl rfl rfl (ov_assign rfl rfl) ?_
                        refine rl_nil ?_
                        refine run_seq ?_
                        refine run_region ?_
                        refine rl_v rfl rfl rfl (ov_loadW rfl Try.underlying37 rfl (by kernel_rfl) rfl hO28 1 rfl) ?_
                        refine rl_call callable_33 rfl rfl rfl rfl rfl rfl (failing_any2 to (some ⟨cb1, 0, none⟩) n tc xc D cash _ hv hc6 (hIT.later hO28.below) (hIC.later hO28.below)) (fun e89 w90 hp91 => ?_)
                        obtain ⟨p29, v29, c29, rfl, hp29, hr29, hO29⟩ := hp91
                        refine ⟨_, rfl, ?_⟩
                        have hO92 := hO28.join hO29
                        obtain ⟨a29, x29, rfl⟩ := hr29.val
                        have hI29 := hr29.reads hO92 0 rfl
                        have hI27 := hT27.reads (H' := []) (by rw [List.append_nil]; exact hO92.sub (List.sublist_append_right [c29, some (vch b10 2 x10 G10), some (lch b8 37 [.slice to n tc, .slice (some ⟨cb1, 0, none⟩) n xc]), some (lch b7 35 [.slice to n tc, .slice (some ⟨cb1, 0, none⟩) n xc])] H27))
                        have hOB := hOA.join hO92
                        have hI5'' := hI5'.later hO92.below
                        have hOC := (hOB.sub (H' := [some (vch b10 2 x10 G10), some (lch b7 35 [.slice to n tc, .slice (some ⟨cb1, 0, none⟩) n xc])] ++ ((some (vch cb1 2 xc Gc1) :: H) ++ [some (vch b5 65 2 (fun i => .int .i64 (of0 i)))])) (List.Sublist.append (.cons _ (.cons_cons _ (.cons _ (.cons_cons _ (List.nil_sublist _))))) (List.Sublist.append (.refl _) (.cons_cons _ (.cons _ (.refl _)))))).perm (H' := some (vch cb1 2 xc Gc1) :: some (vch b10 2 x10 G10) :: some (lch b7 35 [.slice to n tc, .slice (some ⟨cb1, 0, none⟩) n xc]) :: some (vch b5 65 2 (fun i => .int .i64 (of0 i))) :: H) ((List.perm_middle (l₁ := [some (vch b10 2 x10 G10), some (lch b7 35 [.slice to n tc, .slice (some ⟨cb1, 0, none⟩) n xc])])).trans (List.Perm.cons _ (List.Perm.append_left [some (vch b10 2 x10 G10), some (lch b7 35 [.slice to n tc, .slice (some ⟨cb1, 0, none⟩) n xc])] List.perm_append_comm)))
                        have hIz := Own.init w90
                        obtain ⟨A2, C2, RB2, RO2, gb2, go2, hga2, hrow2, hra2, hel2, hri2⟩ := hI27.open
                        obtain ⟨lb, lo, hla, hlrow⟩ := hI29.open
                        refine rl_v rfl rfl rfl (ov_move rfl rfl) ?_
                        refine rl_v rfl rfl rfl (ov_extract rfl rfl (by rfl)) ?_
                        refine rl_v rfl rfl rfl (ov_extract rfl rfl (by rfl)) ?_
                        refine rl_v rfl rfl rfl (ov_assign rfl rfl) ?_
                        refine rl_v rfl rfl rfl (ov_assign rfl rfl) ?_
                        refine rl_nil ?_
                        refine run_seq ?_
                        refine run_region ?_
                        refine rl_v rfl rfl rfl (ov_move rfl rfl) ?_
                        refine rl_make (n) rfl rfl rfl rfl Try.underlying48 info_4 rfl hIz rfl rfl (by first | rfl | omega) (by first | rfl | omega) ⟨by omega, by omega⟩ (fun b31 w93 hO94 hs95 => ?_)
                        refine rl_v rfl rfl rfl (ov_assign rfl rfl) ?_
                        refine rl_nil ?_
                        refine run_seq ?_
                        refine run_seq ?_
                        refine run_region ?_
                        refine rl_v rfl rfl rfl (ov_assign rfl rfl) ?_
                        refine rl_nil ?_
                        refine run_block ?_
                        refine Run.keep [5, 7, 9, 10, 27, 28, 29, 30, 31, 32] (F' := [(5, _), (7, _), (9, _), (10, _), (27, _), (28, _), (29, _), (30, _), (31, _), (32, _)]) rfl ?_
                        refine run_loop2 (fun (k : Int) (g : Int → Bool) => [(32, .int .i64 k)]) [5, 7, 9, 10, 27, 28, 29, 30, 31] (fun (k : Int) (g : Int → Bool) (w96 : World) => 0 ≤ k ∧ k ≤ K ∧ (∀ i : Int, 0 ≤ i → i < n → g i = fallen n D cash k.toNat i) ∧ Own w90.heap.size w90 w96 [some (vch b31 4 n (fun i => .bool (g i)))]) (fun (k : Int) (g : Int → Bool) => ((K : Int) - k).toNat) (0) (fun _ => false) ?_ (And.intro (by first | with_reducible rfl | exact slot_int rfl (by first | omega) | rfl) (And.intro rfl (And.intro rfl (And.intro rfl (And.intro rfl (And.intro rfl (And.intro rfl (And.intro rfl (And.intro rfl (And.intro rfl trivial)))))))))) ?_
                        · exact ⟨by omega, by omega, fun i i0 i1 => rfl, hO94⟩
                        intro k g w96 hIw96 ih97
                        obtain ⟨hk0, hk1, hg, hO⟩ := hIw96
                        show Run _ _ _ _ [(32, _), (5, _), (7, _), (9, _), (10, _), (27, _), (28, _), (29, _), (30, _), (31, _)] _ _
                        refine run_seq ?_
                        refine run_seq ?_
                        refine run_region ?_
                        refine rl_v rfl rfl rfl (ov_move rfl rfl) ?_
                        refine rl_v rfl rfl rfl (ov_move rfl rfl) ?_
                        refine rl_v rfl rfl rfl (ov_len rfl Try.underlying58 rfl) ?_
                        refine rl_v rfl rfl rfl (ov_lss rfl rfl rfl) ?_
                        refine rl_nil ?_
                        first | refine run_cond_dec rfl (fun h20 => ?_) (fun h20 => ?_) | refine run_cond rfl (fun h20 => ?_) (fun h20 => ?_)
                        · have hlk : (wv n D cash k.toNat).length ≤ n := pk_len _ _
                          refine run_skip ?_
                          refine run_seq ?_
                          refine run_block ?_
                          refine run_seq ?_
                          refine run_region ?_
                          refine rl_v rfl rfl rfl (ov_assign rfl rfl) ?_
                          refine rl_nil ?_
                          refine run_block ?_
                          refine Run.keep [5, 7, 9, 10, 27, 28, 29, 30, 31, 32, 33] (F' := [(5, _), (7, _), (9, _), (10, _), (27, _), (28, _), (29, _), (30, _), (31, _), (32, _), (33, _)]) rfl ?_
                          refine run_loop2 (fun (j : Int) (g2 : Int → Bool) => [(33, .int .i64 j)]) [5, 7, 9, 10, 27, 28, 29, 30, 31, 32] (fun (j : Int) (g2 : Int → Bool) (w98 : World) => 0 ≤ j ∧ j ≤ (wv n D cash k.toNat).length ∧ (∀ i, g2 i = (g i ||decide (i ∈ (wv n D cash k.toNat).take j.toNat))) ∧ Own w90.heap.size w90 w98 [some (vch b31 4 n (fun i => .bool (g2 i)))]) (fun (j : Int) (g2 : Int → Bool) => (((wv n D cash k.toNat).length : Int) - j).toNat) (0) (g) ?_ (And.intro (by first | with_reducible rfl | exact slot_int rfl (by first | omega) | rfl) (And.intro rfl (And.intro rfl (And.intro rfl (And.intro rfl (And.intro rfl (And.intro rfl (And.intro rfl (And.intro rfl (And.intro rfl (And.intro rfl trivial))))))))))) ?_
                          · exact ⟨by omega, by omega, fun i => by simp, hO⟩
                          intro j g2 w98 hIw98 ih99
                          obtain ⟨hj0, hj1, hg2, hO2⟩ := hIw98
                          show Run _ _ _ _ [(33, _), (5, _), (7, _), (9, _), (10, _), (27, _), (28, _), (29, _), (30, _), (31, _), (32, _)] _ _
                          refine run_seq ?_
                          refine run_seq ?_
                          refine run_region ?_
                          refine rl_v rfl rfl rfl (ov_move rfl rfl) ?_
                          refine rl_v rfl rfl rfl (ov_move rfl rfl) ?_
                          refine rl_v rfl rfl rfl (ov_move rfl rfl) ?_
                          refine rl_v rfl rfl rfl (ov_index1 rfl Try.underlying58 (by kernel_rfl) rfl rfl ⟨by omega, by omega⟩ (by first | rfl | exact hga2 (by omega) | exact hra2 _ (by omega) (by omega) (by omega) | exact hla (by omega))) ?_
                          refine rl_v rfl rfl rfl (ov_load rfl Try.underlying55 rfl rfl (by first | exact hrow2 _ hO2.below _ (by omega) (by omega) | exact hel2 _ hO2.below _ (by omega) (by omega) _ (by omega) (by omega) | exact hlrow _ hO2.below _ (by omega) (by omega) | exact hO2.cellI 0 rfl _ (by omega) (by omega) | exact hO2.cellL 0 rfl rfl | exact hO2.cellI 1 rfl _ (by omega) (by omega) | exact hO2.cellL 1 rfl rfl | exact hO2.cellI 2 rfl _ (by omega) (by omega) | exact hO2.cellL 2 rfl rfl | exact hO2.cellI 3 rfl _ (by omega) (by omega) | exact hO2.cellL 3 rfl rfl | exact hO2.cellI 4 rfl _ (by omega) (by omega) | exact hO2.cellL 4 rfl rfl | exact hO2.cellI 5 rfl _ (by omega) (by omega) | exact hO2.cellL 5 rfl rfl)) ?_
                          refine rl_v rfl rfl rfl (ov_len rfl Try.underlying55 rfl) ?_
                          refine rl_v rfl rfl rfl (ov_lss rfl rfl rfl) ?_
                          refine rl_nil ?_
                          first | refine run_cond_dec rfl (fun h21 => ?_) (fun h21 => ?_) | refine run_cond rfl (fun h21 => ?_) (fun h21 => ?_)
                          · have hxm := lF_mem.2 ⟨j, hj0, h21, rfl⟩
                            have hxr := wv_mem hxm
                            have hg2x : g2 (lF (wv n D cash k.toNat) j) = false := by rw [hg2, hg _ hxr.1 hxr.2, wv_fresh hxm]; simp [not_before (show (wv n D cash k.toNat).Nodup from pk_nodup _ _) hj0 h21]
                            refine run_skip ?_
                            refine run_seq ?_
                            refine run_block ?_
                            refine run_seq ?_
                            refine run_seq ?_
                            refine run_region ?_
                            refine rl_v rfl rfl rfl (ov_move rfl rfl) ?_
                            refine rl_v rfl rfl rfl (ov_move rfl rfl) ?_
                            refine rl_v rfl rfl rfl (ov_index1 rfl Try.underlying58 (by kernel_rfl) rfl rfl ⟨by omega, by omega⟩ (by first | rfl | exact hga2 (by omega) | exact hra2 _ (by omega) (by omega) (by omega) | exact hla (by omega))) ?_
                            refine rl_v rfl rfl rfl (ov_load rfl Try.underlying55 rfl rfl (by first | exact hrow2 _ hO2.below _ (by omega) (by omega) | exact hel2 _ hO2.below _ (by omega) (by omega) _ (by omega) (by omega) | exact hlrow _ hO2.below _ (by omega) (by omega) | exact hO2.cellI 0 rfl _ (by omega) (by omega) | exact hO2.cellL 0 rfl rfl | exact hO2.cellI 1 rfl _ (by omega) (by omega) | exact hO2.cellL 1 rfl rfl | exact hO2.cellI 2 rfl _ (by omega) (by omega) | exact hO2.cellL 2 rfl rfl | exact hO2.cellI 3 rfl _ (by omega) (by omega) | exact hO2.cellL 3 rfl rfl | exact hO2.cellI 4 rfl _ (by omega) (by omega) | exact hO2.cellL 4 rfl rfl | exact hO2.cellI 5 rfl _ (by omega) (by omega) | exact hO2.cellL 5 rfl rfl)) ?_
                            refine rl_v rfl rfl rfl (ov_move rfl rfl) ?_
                            refine rl_v rfl rfl rfl (ov_index1 rfl Try.underlying55 (by kernel_rfl) rfl rfl ⟨by omega, by omega⟩ (by first | rfl | exact hga2 (by omega) | exact hra2 _ (by omega) (by omega) (by omega) | exact hla (by omega))) ?_
                            refine rl_v rfl rfl rfl (ov_load rfl Try.underlying3 rfl rfl (by first | exact hrow2 _ hO2.below _ (by omega) (by omega) | exact hel2 _ hO2.below _ (by omega) (by omega) _ (by omega) (by omega) | exact hlrow _ hO2.below _ (by omega) (by omega) | exact hO2.cellI 0 rfl _ (by omega) (by omega) | exact hO2.cellL 0 rfl rfl | exact hO2.cellI 1 rfl _ (by omega) (by omega) | exact hO2.cellL 1 rfl rfl | exact hO2.cellI 2 rfl _ (by omega) (by omega) | exact hO2.cellL 2 rfl rfl | exact hO2.cellI 3 rfl _ (by omega) (by omega) | exact hO2.cellL 3 rfl rfl | exact hO2.cellI 4 rfl _ (by omega) (by omega) | exact hO2.cellL 4 rfl rfl | exact hO2.cellI 5 rfl _ (by omega) (by omega) | exact hO2.cellL 5 rfl rfl)) ?_
                            refine rl_v rfl rfl rfl (ov_lss rfl rfl rfl) ?_
                            refine rl_v rfl rfl rfl (ov_move rfl rfl) ?_
                            first | refine rl_split_dec 237 rfl (fun g6 => ?_) (fun g6 => ?_) | refine rl_split 237 rfl (fun g6 => ?_) (fun g6 => ?_)
                            · refine rl_gskip rfl rfl rfl rfl rfl rfl ?_
                              refine rl_gskip rfl rfl rfl rfl rfl rfl ?_
                              refine rl_gskip rfl rfl rfl rfl rfl rfl ?_
                              refine rl_gskip rfl rfl rfl rfl rfl rfl ?_
                              refine rl_gskip rfl rfl rfl rfl rfl rfl ?_
                              refine rl_gskip rfl rfl rfl rfl rfl rfl ?_
                              refine rl_gskip rfl rfl rfl rfl rfl rfl ?_
                              refine rl_gskip rfl rfl rfl rfl rfl rfl ?_
                              refine rl_gskip rfl rfl rfl rfl rfl rfl ?_
                              refine rl_v rfl rfl rfl (ov_pick_t rfl rfl rfl) ?_
                              refine rl_v rfl rfl rfl (ov_move rfl rfl) ?_
                              refine rl_gskip rfl rfl rfl rfl rfl rfl ?_
                              refine rl_gskip rfl rfl rfl rfl rfl rfl ?_
                              refine rl_gskip rfl rfl rfl rfl rfl rfl ?_
                              refine rl_gskip rfl rfl rfl rfl rfl rfl ?_
                              refine rl_gskip rfl rfl rfl rfl rfl rfl ?_
                              refine rl_gskip rfl rfl rfl rfl rfl rfl ?_
                              refine rl_gskip rfl rfl rfl rfl rfl rfl ?_
                              refine rl_gskip rfl rfl rfl rfl rfl rfl ?_
                              refine rl_gskip rfl rfl rfl rfl rfl rfl ?_
                              refine rl_gskip rfl rfl rfl rfl rfl rfl ?_
                              refine rl_v rfl rfl rfl (ov_pick_t rfl rfl rfl) ?_
                              refine rl_nil ?_
                              refine run_cond_t rfl ?_
                              exfalso; omega
                            · refine rl_gv rfl rfl rfl rfl rfl (ov_move rfl rfl) ?_
                              refine rl_gv rfl rfl rfl rfl rfl (ov_move rfl rfl) ?_
                              refine rl_gv rfl rfl rfl rfl rfl (ov_index1 rfl Try.underlying58 (by kernel_rfl) rfl rfl ⟨by omega, by omega⟩ (by first | rfl | exact hga2 (by omega) | exact hra2 _ (by omega) (by omega) (by omega) | exact hla (by omega))) ?_
                              refine rl_gv rfl rfl rfl rfl rfl (ov_load rfl Try.underlying55 rfl rfl (by first | exact hrow2 _ hO2.below _ (by omega) (by omega) | exact hel2 _ hO2.below _ (by omega) (by omega) _ (by omega) (by omega) | exact hlrow _ hO2.below _ (by omega) (by omega) | exact hO2.cellI 0 rfl _ (by omega) (by omega) | exact hO2.cellL 0 rfl rfl | exact hO2.cellI 1 rfl _ (by omega) (by omega) | exact hO2.cellL 1 rfl rfl | exact hO2.cellI 2 rfl _ (by omega) (by omega) | exact hO2.cellL 2 rfl rfl | exact hO2.cellI 3 rfl _ (by omega) (by omega) | exact hO2.cellL 3 rfl rfl | exact hO2.cellI 4 rfl _ (by omega) (by omega) | exact hO2.cellL 4 rfl rfl | exact hO2.cellI 5 rfl _ (by omega) (by omega) | exact hO2.cellL 5 rfl rfl)) ?_
                              refine rl_gv rfl rfl rfl rfl rfl (ov_move rfl rfl) ?_
                              refine rl_gv rfl rfl rfl rfl rfl (ov_index1 rfl Try.underlying55 (by kernel_rfl) rfl rfl ⟨by omega, by omega⟩ (by first | rfl | exact hga2 (by omega) | exact hra2 _ (by omega) (by omega) (by omega) | exact hla (by omega))) ?_
                              refine rl_gv rfl rfl rfl rfl rfl (ov_load rfl Try.underlying3 rfl rfl (by first | exact hrow2 _ hO2.below _ (by omega) (by omega) | exact hel2 _ hO2.below _ (by omega) (by omega) _ (by omega) (by omega) | exact hlrow _ hO2.below _ (by omega) (by omega) | exact hO2.cellI 0 rfl _ (by omega) (by omega) | exact hO2.cellL 0 rfl rfl | exact hO2.cellI 1 rfl _ (by omega) (by omega) | exact hO2.cellL 1 rfl rfl | exact hO2.cellI 2 rfl _ (by omega) (by omega) | exact hO2.cellL 2 rfl rfl | exact hO2.cellI 3 rfl _ (by omega) (by omega) | exact hO2.cellL 3 rfl rfl | exact hO2.cellI 4 rfl _ (by omega) (by omega) | exact hO2.cellL 4 rfl rfl | exact hO2.cellI 5 rfl _ (by omega) (by omega) | exact hO2.cellL 5 rfl rfl)) ?_
                              refine rl_gv rfl rfl rfl rfl rfl (ov_move rfl rfl) ?_
                              refine rl_gv rfl rfl rfl rfl rfl (ov_geq rfl rfl rfl) ?_
                              refine rl_v rfl rfl rfl (ov_pick_f rfl rfl rfl) ?_
                              refine rl_v rfl rfl rfl (ov_move rfl rfl) ?_
                              first | refine rl_split_dec 248 rfl (fun g7 => ?_) (fun g7 => ?_) | refine rl_split 248 rfl (fun g7 => ?_) (fun g7 => ?_)
                              · refine rl_gskip rfl rfl rfl rfl rfl rfl ?_
                                refine rl_gskip rfl rfl rfl rfl rfl rfl ?_
                                refine rl_gskip rfl rfl rfl rfl rfl rfl ?_
                                refine rl_gskip rfl rfl rfl rfl rfl rfl ?_
                                refine rl_gskip rfl rfl rfl rfl rfl rfl ?_
                                refine rl_gskip rfl rfl rfl rfl rfl rfl ?_
                                refine rl_gskip rfl rfl rfl rfl rfl rfl ?_
                                refine rl_gskip rfl rfl rfl rfl rfl rfl ?_
                                refine rl_gskip rfl rfl rfl rfl rfl rfl ?_
                                refine rl_gskip rfl rfl rfl rfl rfl rfl ?_
                                refine rl_v rfl rfl rfl (ov_pick_t rfl rfl rfl) ?_
                                refine rl_nil ?_
                                refine run_cond_t rfl ?_
                                exfalso; omega
                              · refine rl_gv rfl rfl rfl rfl rfl (ov_move rfl rfl) ?_
                                refine rl_gv rfl rfl rfl rfl rfl (ov_move rfl rfl) ?_
                                refine rl_gv rfl rfl rfl rfl rfl (ov_move rfl rfl) ?_
                                refine rl_gv rfl rfl rfl rfl rfl (ov_index1 rfl Try.underlying58 (by kernel_rfl) rfl rfl ⟨by omega, by omega⟩ (by first | rfl | exact hga2 (by omega) | exact hra2 _ (by omega) (by omega) (by omega) | exact hla (by omega))) ?_
                                refine rl_gv rfl rfl rfl rfl rfl (ov_load rfl Try.underlying55 rfl rfl (by first | exact hrow2 _ hO2.below _ (by omega) (by omega) | exact hel2 _ hO2.below _ (by omega) (by omega) _ (by omega) (by omega) | exact hlrow _ hO2.below _ (by omega) (by omega) | exact hO2.cellI 0 rfl _ (by omega) (by omega) | exact hO2.cellL 0 rfl rfl | exact hO2.cellI 1 rfl _ (by omega) (by omega) | exact hO2.cellL 1 rfl rfl | exact hO2.cellI 2 rfl _ (by omega) (by omega) | exact hO2.cellL 2 rfl rfl | exact hO2.cellI 3 rfl _ (by omega) (by omega) | exact hO2.cellL 3 rfl rfl | exact hO2.cellI 4 rfl _ (by omega) (by omega) | exact hO2.cellL 4 rfl rfl | exact hO2.cellI 5 rfl _ (by omega) (by omega) | exact hO2.cellL 5 rfl rfl)) ?_
                                refine rl_gv rfl rfl rfl rfl rfl (ov_move rfl rfl) ?_
                                refine rl_gv rfl rfl rfl rfl rfl (ov_index1 rfl Try.underlying55 (by kernel_rfl) rfl rfl ⟨by omega, by omega⟩ (by first | rfl | exact hga2 (by omega) | exact hra2 _ (by omega) (by omega) (by omega) | exact hla (by omega))) ?_
                                refine rl_gv rfl rfl rfl rfl rfl (ov_load rfl Try.underlying3 rfl rfl (by first | exact hrow2 _ hO2.below _ (by omega) (by omega) | exact hel2 _ hO2.below _ (by omega) (by omega) _ (by omega) (by omega) | exact hlrow _ hO2.below _ (by omega) (by omega) | exact hO2.cellI 0 rfl _ (by omega) (by omega) | exact hO2.cellL 0 rfl rfl | exact hO2.cellI 1 rfl _ (by omega) (by omega) | exact hO2.cellL 1 rfl rfl | exact hO2.cellI 2 rfl _ (by omega) (by omega) | exact hO2.cellL 2 rfl rfl | exact hO2.cellI 3 rfl _ (by omega) (by omega) | exact hO2.cellL 3 rfl rfl | exact hO2.cellI 4 rfl _ (by omega) (by omega) | exact hO2.cellL 4 rfl rfl | exact hO2.cellI 5 rfl _ (by omega) (by omega) | exact hO2.cellL 5 rfl rfl)) ?_
                                refine rl_gv rfl rfl rfl rfl rfl (ov_index1 rfl Try.underlying48 (by kernel_rfl) rfl rfl ⟨by omega, by omega⟩ (by first | rfl | exact hga2 (by omega) | exact hra2 _ (by omega) (by omega) (by omega) | exact hla (by omega))) ?_
                                refine rl_gv rfl rfl rfl rfl rfl (ov_load rfl Try.underlying4 rfl rfl (by first | exact hrow2 _ hO2.below _ (by omega) (by omega) | exact hel2 _ hO2.below _ (by omega) (by omega) _ (by omega) (by omega) | exact hlrow _ hO2.below _ (by omega) (by omega) | exact hO2.cellI 0 rfl _ (by omega) (by omega) | exact hO2.cellL 0 rfl rfl | exact hO2.cellI 1 rfl _ (by omega) (by omega) | exact hO2.cellL 1 rfl rfl | exact hO2.cellI 2 rfl _ (by omega) (by omega) | exact hO2.cellL 2 rfl rfl | exact hO2.cellI 3 rfl _ (by omega) (by omega) | exact hO2.cellL 3 rfl rfl | exact hO2.cellI 4 rfl _ (by omega) (by omega) | exact hO2.cellL 4 rfl rfl | exact hO2.cellI 5 rfl _ (by omega) (by omega) | exact hO2.cellL 5 rfl rfl)) ?_
                                refine rl_v rfl rfl rfl (ov_pick_f rfl rfl rfl) ?_
                                refine rl_nil ?_
                                first | refine run_cond_dec rfl (fun h22 => ?_) (fun h22 => ?_) | refine run_cond rfl (fun h22 => ?_) (fun h22 => ?_)
                                · exfalso; rw [hg2x] at h22; cases h22
                                · refine run_skip ?_
                                  refine run_region ?_
                                  refine rl_v rfl rfl rfl (ov_move rfl rfl) ?_
                                  refine rl_v rfl rfl rfl (ov_move rfl rfl) ?_
                                  refine rl_v rfl rfl rfl (ov_move rfl rfl) ?_
                                  refine rl_v rfl rfl rfl (ov_index1 rfl Try.underlying58 (by kernel_rfl) rfl rfl ⟨by omega, by omega⟩ (by first | rfl | exact hga2 (by omega) | exact hra2 _ (by omega) (by omega) (by omega) | exact hla (by omega))) ?_
                                  refine rl_v rfl rfl rfl (ov_load rfl Try.underlying55 rfl rfl (by first | exact hrow2 _ hO2.below _ (by omega) (by omega) | exact hel2 _ hO2.below _ (by omega) (by omega) _ (by omega) (by omega) | exact hlrow _ hO2.below _ (by omega) (by omega) | exact hO2.cellI 0 rfl _ (by omega) (by omega) | exact hO2.cellL 0 rfl rfl | exact hO2.cellI 1 rfl _ (by omega) (by omega) | exact hO2.cellL 1 rfl rfl | exact hO2.cellI 2 rfl _ (by omega) (by omega) | exact hO2.cellL 2 rfl rfl | exact hO2.cellI 3 rfl _ (by omega) (by omega) | exact hO2.cellL 3 rfl rfl | exact hO2.cellI 4 rfl _ (by omega) (by omega) | exact hO2.cellL 4 rfl rfl | exact hO2.cellI 5 rfl _ (by omega) (by omega) | exact hO2.cellL 5 rfl rfl)) ?_
                                  refine rl_v rfl rfl rfl (ov_move rfl rfl) ?_
                                  refine rl_v rfl rfl rfl (ov_index1 rfl Try.underlying55 (by kernel_rfl) rfl rfl ⟨by omega, by omega⟩ (by first | rfl | exact hga2 (by omega) | exact hra2 _ (by omega) (by omega) (by omega) | exact hla (by omega))) ?_
                                  refine rl_v rfl rfl rfl (ov_load rfl Try.underlying3 rfl rfl (by first | exact hrow2 _ hO2.below _ (by omega) (by omega) | exact hel2 _ hO2.below _ (by omega) (by omega) _ (by omega) (by omega) | exact hlrow _ hO2.below _ (by omega) (by omega) | exact hO2.cellI 0 rfl _ (by omega) (by omega) | exact hO2.cellL 0 rfl rfl | exact hO2.cellI 1 rfl _ (by omega) (by omega) | exact hO2.cellL 1 rfl rfl | exact hO2.cellI 2 rfl _ (by omega) (by omega) | exact hO2.cellL 2 rfl rfl | exact hO2.cellI 3 rfl _ (by omega) (by omega) | exact hO2.cellL 3 rfl rfl | exact hO2.cellI 4 rfl _ (by omega) (by omega) | exact hO2.cellL 4 rfl rfl | exact hO2.cellI 5 rfl _ (by omega) (by omega) | exact hO2.cellL 5 rfl rfl)) ?_
                                  refine rl_v rfl rfl rfl (ov_index1 rfl Try.underlying48 (by kernel_rfl) rfl rfl ⟨by omega, by omega⟩ (by first | rfl | exact hga2 (by omega) | exact hra2 _ (by omega) (by omega) (by omega) | exact hla (by omega))) ?_
                                  first | refine rl_storeB rfl rfl rfl (by kernel_rfl) hO2 0 rfl rfl ⟨by omega, by omega⟩ rfl (fun w102 hO103 hs104 => ?_)
                                  refine rl_nil ?_
                                  refine run_inBlock ?_
                                  refine run_region ?_
                                  refine rl_v rfl rfl rfl (ov_move rfl rfl) ?_
                                  refine rl_v rfl rfl rfl (ov_add rfl rfl rfl (by omega)) ?_
                                  refine rl_v rfl rfl rfl (ov_assign rfl rfl) ?_
                                  refine rl_nil ?_
                                  refine Run.use (ih99 (j + 1) (upd g2 (lF (wv n D cash k.toNat) j) true) _ ?_ ?_) (And.intro (by first | with_reducible rfl | exact slot_int rfl (by first | omega) | rfl) (And.intro rfl (And.intro rfl (And.intro rfl (And.intro rfl (And.intro rfl (And.intro rfl (And.intro rfl (And.intro rfl (And.intro rfl (And.intro rfl trivial)))))))))))
                                  · first | omega | (dsimp only; omega)
                                  · exact ⟨by omega, by omega, fun i => by rw [show g2 = _ from funext hg2]; exact fall_up hj0 h21 rfl, hO103⟩
                          · have hjl : j = (wv n D cash k.toNat).length := by omega
                            refine run_exit rfl ?_
                            refine run_inBlock ?_
                            refine run_region ?_
                            refine rl_v rfl rfl rfl (ov_move rfl rfl) ?_
                            refine rl_v rfl rfl rfl (ov_add rfl rfl rfl (by omega)) ?_
                            refine rl_v rfl rfl rfl (ov_assign rfl rfl) ?_
                            refine rl_nil ?_
                            refine Run.use (ih97 (k + 1) (g2) _ ?_ ?_) (And.intro (by first | with_reducible rfl | exact slot_int rfl (by first | omega) | rfl) (And.intro rfl (And.intro rfl (And.intro rfl (And.intro rfl (And.intro rfl (And.intro rfl (And.intro rfl (And.intro rfl (And.intro rfl trivial))))))))))
                            · first | omega | (dsimp only; omega)
                            · exact ⟨by omega, by omega, by have := fallen_next hg hg2 hjl; rw [show (k + 1).toNat = k.toNat + 1 by omega]; exact this, hO2⟩
                        · obtain rfl : k = K := by omega
                          have hfi : ∀ i : Int, 0 ≤ i → i < n → (g i = true ↔ p i < ow n D i) := fun i i0 i1 => by rw [hg i i0 i1]; exact fallen_iff hv hc0' hp hK i i0 i1
                          have hflg : flg n D p29 = flg n D p := flg_congr (hp29.uniq hp)
                          have hlen9 : (flg n D p29).length ≤ n := pk_len _ _
                          refine run_exit rfl ?_
                          refine run_seq ?_
                          refine run_seq ?_
                          refine run_region ?_
                          refine rl_v rfl rfl rfl (ov_assign rfl rfl) ?_
                          refine rl_nil ?_
                          refine run_block ?_
                          refine Run.keep [5, 7, 9, 10, 28, 29, 30, 31, 34] (F' := [(5, _), (7, _), (9, _), (10, _), (28, _), (29, _), (30, _), (31, _), (34, _)]) rfl ?_
                          refine run_loop2 (fun (j : Int) (g3 : Int → Bool) => [(34, .int .i64 j)]) [5, 7, 9, 10, 28, 29, 30, 31] (fun (j : Int) (g3 : Int → Bool) (w105 : World) => 0 ≤ j ∧ j ≤ (flg n D p29).length ∧ (∀ i, g3 i = (g i && !decide (i ∈ (flg n D p29).take j.toNat))) ∧ Own w90.heap.size w90 w105 [some (vch b31 4 n (fun i => .bool (g3 i)))]) (fun (j : Int) (g3 : Int → Bool) => (((flg n D p29).length : Int) - j).toNat) (0) (g) ?_ (And.intro (by first | with_reducible rfl | exact slot_int rfl (by first | omega) | rfl) (And.intro rfl (And.intro rfl (And.intro rfl (And.intro rfl (And.intro rfl (And.intro rfl (And.intro rfl (And.intro rfl trivial))))))))) ?_
                          · exact ⟨by omega, by omega, fun i => by simp, hO⟩
                          intro j g3 w105 hIw105 ih106
                          obtain ⟨hj0, hj1, hg3, hO2⟩ := hIw105
                          show Run _ _ _ _ [(34, _), (5, _), (7, _), (9, _), (10, _), (28, _), (29, _), (30, _), (31, _)] _ _
                          refine run_seq ?_
                          refine run_seq ?_
                          refine run_region ?_
                          refine rl_v rfl rfl rfl (ov_move rfl rfl) ?_
                          refine rl_v rfl rfl rfl (ov_move rfl rfl) ?_
                          refine rl_v rfl rfl rfl (ov_len rfl Try.underlying55 rfl) ?_
                          refine rl_v rfl rfl rfl (ov_lss rfl rfl rfl) ?_
                          refine rl_nil ?_
                          first | refine run_cond_dec rfl (fun h23 => ?_) (fun h23 => ?_) | refine run_cond rfl (fun h23 => ?_) (fun h23 => ?_)
                          · have hxm : lF (flg n D p29) j ∈ (flg n D p29) := lF_mem.2 ⟨j, hj0, h23, rfl⟩
                            have hxr : 0 ≤ lF (flg n D p29) j ∧ lF (flg n D p29) j < n := ⟨(pk_mem.1 hxm).1, (pk_mem.1 hxm).2.1⟩
                            have hg3x : g3 (lF (flg n D p29) j) = true := by
                              have h1 := hxm
                              rw [hflg, mem_flg (by rw [← hflg]; exact hxr.1) (by rw [← hflg]; exact hxr.2), ← hflg] at h1
                              rw [hg3, (hfi _ hxr.1 hxr.2).2 h1]
                              simp [not_before (show (flg n D p29).Nodup from pk_nodup _ _) hj0 h23]
                            refine run_skip ?_
                            refine run_seq ?_
                            refine run_block ?_
                            refine run_seq ?_
                            refine run_seq ?_
                            refine run_region ?_
                            refine rl_v rfl rfl rfl (ov_move rfl rfl) ?_
                            refine rl_v rfl rfl rfl (ov_move rfl rfl) ?_
                            refine rl_v rfl rfl rfl (ov_index1 rfl Try.underlying55 (by kernel_rfl) rfl rfl ⟨by omega, by omega⟩ (by first | rfl | exact hga2 (by omega) | exact hra2 _ (by omega) (by omega) (by omega) | exact hla (by omega))) ?_
                            refine rl_v rfl rfl rfl (ov_load rfl Try.underlying3 rfl rfl (by first | exact hrow2 _ hO2.below _ (by omega) (by omega) | exact hel2 _ hO2.below _ (by omega) (by omega) _ (by omega) (by omega) | exact hlrow _ hO2.below _ (by omega) (by omega) | exact hO2.cellI 0 rfl _ (by omega) (by omega) | exact hO2.cellL 0 rfl rfl | exact hO2.cellI 1 rfl _ (by omega) (by omega) | exact hO2.cellL 1 rfl rfl | exact hO2.cellI 2 rfl _ (by omega) (by omega) | exact hO2.cellL 2 rfl rfl | exact hO2.cellI 3 rfl _ (by omega) (by omega) | exact hO2.cellL 3 rfl rfl | exact hO2.cellI 4 rfl _ (by omega) (by omega) | exact hO2.cellL 4 rfl rfl | exact hO2.cellI 5 rfl _ (by omega) (by omega) | exact hO2.cellL 5 rfl rfl)) ?_
                            refine rl_v rfl rfl rfl (ov_lss rfl rfl rfl) ?_
                            refine rl_v rfl rfl rfl (ov_move rfl rfl) ?_
                            first | refine rl_split_dec 280 rfl (fun g8 => ?_) (fun g8 => ?_) | refine rl_split 280 rfl (fun g8 => ?_) (fun g8 => ?_)
                            · refine rl_gskip rfl rfl rfl rfl rfl rfl ?_
                              refine rl_gskip rfl rfl rfl rfl rfl rfl ?_
                              refine rl_gskip rfl rfl rfl rfl rfl rfl ?_
                              refine rl_gskip rfl rfl rfl rfl rfl rfl ?_
                              refine rl_gskip rfl rfl rfl rfl rfl rfl ?_
                              refine rl_gskip rfl rfl rfl rfl rfl rfl ?_
                              refine rl_v rfl rfl rfl (ov_pick_t rfl rfl rfl) ?_
                              refine rl_v rfl rfl rfl (ov_move rfl rfl) ?_
                              refine rl_gskip rfl rfl rfl rfl rfl rfl ?_
                              refine rl_gskip rfl rfl rfl rfl rfl rfl ?_
                              refine rl_gskip rfl rfl rfl rfl rfl rfl ?_
                              refine rl_gskip rfl rfl rfl rfl rfl rfl ?_
                              refine rl_gskip rfl rfl rfl rfl rfl rfl ?_
                              refine rl_gskip rfl rfl rfl rfl rfl rfl ?_
                              refine rl_gskip rfl rfl rfl rfl rfl rfl ?_
                              refine rl_gskip rfl rfl rfl rfl rfl rfl ?_
                              refine rl_v rfl rfl rfl (ov_pick_t rfl rfl rfl) ?_
                              refine rl_nil ?_
                              refine run_cond_t rfl ?_
                              exfalso; omega
                            · refine rl_gv rfl rfl rfl rfl rfl (ov_move rfl rfl) ?_
                              refine rl_gv rfl rfl rfl rfl rfl (ov_move rfl rfl) ?_
                              refine rl_gv rfl rfl rfl rfl rfl (ov_index1 rfl Try.underlying55 (by kernel_rfl) rfl rfl ⟨by omega, by omega⟩ (by first | rfl | exact hga2 (by omega) | exact hra2 _ (by omega) (by omega) (by omega) | exact hla (by omega))) ?_
                              refine rl_gv rfl rfl rfl rfl rfl (ov_load rfl Try.underlying3 rfl rfl (by first | exact hrow2 _ hO2.below _ (by omega) (by omega) | exact hel2 _ hO2.below _ (by omega) (by omega) _ (by omega) (by omega) | exact hlrow _ hO2.below _ (by omega) (by omega) | exact hO2.cellI 0 rfl _ (by omega) (by omega) | exact hO2.cellL 0 rfl rfl | exact hO2.cellI 1 rfl _ (by omega) (by omega) | exact hO2.cellL 1 rfl rfl | exact hO2.cellI 2 rfl _ (by omega) (by omega) | exact hO2.cellL 2 rfl rfl | exact hO2.cellI 3 rfl _ (by omega) (by omega) | exact hO2.cellL 3 rfl rfl | exact hO2.cellI 4 rfl _ (by omega) (by omega) | exact hO2.cellL 4 rfl rfl | exact hO2.cellI 5 rfl _ (by omega) (by omega) | exact hO2.cellL 5 rfl rfl)) ?_
                              refine rl_gv rfl rfl rfl rfl rfl (ov_move rfl rfl) ?_
                              refine rl_gv rfl rfl rfl rfl rfl (ov_geq rfl rfl rfl) ?_
                              refine rl_v rfl rfl rfl (ov_pick_f rfl rfl rfl) ?_
                              refine rl_v rfl rfl rfl (ov_move rfl rfl) ?_
                              first | refine rl_split_dec 288 rfl (fun g9 => ?_) (fun g9 => ?_) | refine rl_split 288 rfl (fun g9 => ?_) (fun g9 => ?_)
                              · refine rl_gskip rfl rfl rfl rfl rfl rfl ?_
                                refine rl_gskip rfl rfl rfl rfl rfl rfl ?_
                                refine rl_gskip rfl rfl rfl rfl rfl rfl ?_
                                refine rl_gskip rfl rfl rfl rfl rfl rfl ?_
                                refine rl_gskip rfl rfl rfl rfl rfl rfl ?_
                                refine rl_gskip rfl rfl rfl rfl rfl rfl ?_
                                refine rl_gskip rfl rfl rfl rfl rfl rfl ?_
                                refine rl_gskip rfl rfl rfl rfl rfl rfl ?_
                                refine rl_v rfl rfl rfl (ov_pick_t rfl rfl rfl) ?_
                                refine rl_nil ?_
                                refine run_cond_t rfl ?_
                                exfalso; omega
                              · refine rl_gv rfl rfl rfl rfl rfl (ov_move rfl rfl) ?_
                                refine rl_gv rfl rfl rfl rfl rfl (ov_move rfl rfl) ?_
                                refine rl_gv rfl rfl rfl rfl rfl (ov_move rfl rfl) ?_
                                refine rl_gv rfl rfl rfl rfl rfl (ov_index1 rfl Try.underlying55 (by kernel_rfl) rfl rfl ⟨by omega, by omega⟩ (by first | rfl | exact hga2 (by omega) | exact hra2 _ (by omega) (by omega) (by omega) | exact hla (by omega))) ?_
                                refine rl_gv rfl rfl rfl rfl rfl (ov_load rfl Try.underlying3 rfl rfl (by first | exact hrow2 _ hO2.below _ (by omega) (by omega) | exact hel2 _ hO2.below _ (by omega) (by omega) _ (by omega) (by omega) | exact hlrow _ hO2.below _ (by omega) (by omega) | exact hO2.cellI 0 rfl _ (by omega) (by omega) | exact hO2.cellL 0 rfl rfl | exact hO2.cellI 1 rfl _ (by omega) (by omega) | exact hO2.cellL 1 rfl rfl | exact hO2.cellI 2 rfl _ (by omega) (by omega) | exact hO2.cellL 2 rfl rfl | exact hO2.cellI 3 rfl _ (by omega) (by omega) | exact hO2.cellL 3 rfl rfl | exact hO2.cellI 4 rfl _ (by omega) (by omega) | exact hO2.cellL 4 rfl rfl | exact hO2.cellI 5 rfl _ (by omega) (by omega) | exact hO2.cellL 5 rfl rfl)) ?_
                                refine rl_gv rfl rfl rfl rfl rfl (ov_index1 rfl Try.underlying48 (by kernel_rfl) rfl rfl ⟨by omega, by omega⟩ (by first | rfl | exact hga2 (by omega) | exact hra2 _ (by omega) (by omega) (by omega) | exact hla (by omega))) ?_
                                refine rl_gv rfl rfl rfl rfl rfl (ov_load rfl Try.underlying4 rfl rfl (by first | exact hrow2 _ hO2.below _ (by omega) (by omega) | exact hel2 _ hO2.below _ (by omega) (by omega) _ (by omega) (by omega) | exact hlrow _ hO2.below _ (by omega) (by omega) | exact hO2.cellI 0 rfl _ (by omega) (by omega) | exact hO2.cellL 0 rfl rfl | exact hO2.cellI 1 rfl _ (by omega) (by omega) | exact hO2.cellL 1 rfl rfl | exact hO2.cellI 2 rfl _ (by omega) (by omega) | exact hO2.cellL 2 rfl rfl | exact hO2.cellI 3 rfl _ (by omega) (by omega) | exact hO2.cellL 3 rfl rfl | exact hO2.cellI 4 rfl _ (by omega) (by omega) | exact hO2.cellL 4 rfl rfl | exact hO2.cellI 5 rfl _ (by omega) (by omega) | exact hO2.cellL 5 rfl rfl)) ?_
                                refine rl_gv rfl rfl rfl rfl rfl (ov_not rfl rfl) ?_
                                refine rl_v rfl rfl rfl (ov_pick_f rfl rfl rfl) ?_
                                refine rl_nil ?_
                                first | refine run_cond_dec rfl (fun h24 => ?_) (fun h24 => ?_) | refine run_cond rfl (fun h24 => ?_) (fun h24 => ?_)
                                · exfalso; rw [hg3x] at h24; cases h24
                                · refine run_skip ?_
                                  refine run_region ?_
                                  refine rl_v rfl rfl rfl (ov_move rfl rfl) ?_
                                  refine rl_v rfl rfl rfl (ov_move rfl rfl) ?_
                                  refine rl_v rfl rfl rfl (ov_move rfl rfl) ?_
                                  refine rl_v rfl rfl rfl (ov_index1 rfl Try.underlying55 (by kernel_rfl) rfl rfl ⟨by omega, by omega⟩ (by first | rfl | exact hga2 (by omega) | exact hra2 _ (by omega) (by omega) (by omega) | exact hla (by omega))) ?_
                                  refine rl_v rfl rfl rfl (ov_load rfl Try.underlying3 rfl rfl (by first | exact hrow2 _ hO2.below _ (by omega) (by omega) | exact hel2 _ hO2.below _ (by omega) (by omega) _ (by omega) (by omega) | exact hlrow _ hO2.below _ (by omega) (by omega) | exact hO2.cellI 0 rfl _ (by omega) (by omega) | exact hO2.cellL 0 rfl rfl | exact hO2.cellI 1 rfl _ (by omega) (by omega) | exact hO2.cellL 1 rfl rfl | exact hO2.cellI 2 rfl _ (by omega) (by omega) | exact hO2.cellL 2 rfl rfl | exact hO2.cellI 3 rfl _ (by omega) (by omega) | exact hO2.cellL 3 rfl rfl | exact hO2.cellI 4 rfl _ (by omega) (by omega) | exact hO2.cellL 4 rfl rfl | exact hO2.cellI 5 rfl _ (by omega) (by omega) | exact hO2.cellL 5 rfl rfl)) ?_
                                  refine rl_v rfl rfl rfl (ov_index1 rfl Try.underlying48 (by kernel_rfl) rfl rfl ⟨by omega, by omega⟩ (by first | rfl | exact hga2 (by omega) | exact hra2 _ (by omega) (by omega) (by omega) | exact hla (by omega))) ?_
                                  first | refine rl_storeB rfl rfl rfl (by kernel_rfl) hO2 0 rfl rfl ⟨by omega, by omega⟩ rfl (fun w109 hO110 hs111 => ?_)
                                  refine rl_nil ?_
                                  refine run_inBlock ?_
                                  refine run_region ?_
                                  refine rl_v rfl rfl rfl (ov_move rfl rfl) ?_
                                  refine rl_v rfl rfl rfl (ov_add rfl rfl rfl (by omega)) ?_
                                  refine rl_v rfl rfl rfl (ov_assign rfl rfl) ?_
                                  refine rl_nil ?_
                                  refine Run.use (ih106 (j + 1) (upd g3 (lF (flg n D p29) j) false) _ ?_ ?_) (And.intro (by first | with_reducible rfl | exact slot_int rfl (by first | omega) | rfl) (And.intro rfl (And.intro rfl (And.intro rfl (And.intro rfl (And.intro rfl (And.intro rfl (And.intro rfl (And.intro rfl trivial)))))))))
                                  · first | omega | (dsimp only; omega)
                                  · exact ⟨by omega, by omega, fun i => by rw [show g3 = _ from funext hg3]; exact fall_down hj0 h23 rfl, hO110⟩
                          · have hall : ∀ i : Int, 0 ≤ i → i < n → g3 i = false := fun i i0 i1 => by
                              rw [hg3, List.take_of_length_le (by omega)]
                              cases hgi : g i with
                              | false => rfl
                              | true =>
                                have hm : i ∈ (flg n D p29) := by rw [hflg, mem_flg i0 i1]; exact (hfi i i0 i1).1 hgi
                                simp [hm]
                            refine run_exit rfl ?_
                            refine run_seq ?_
                            refine run_seq ?_
                            refine run_region ?_
                            refine rl_v rfl rfl rfl (ov_assign rfl rfl) ?_
                            refine rl_nil ?_
                            refine run_block ?_
                            refine Run.keep [5, 7, 9, 10, 28, 30, 31, 35] (F' := [(5, _), (7, _), (9, _), (10, _), (28, _), (30, _), (31, _), (35, _)]) rfl ?_
                            refine run_loop1 (fun (k3 : Int) => [(35, .int .i64 k3)]) [5, 7, 9, 10, 28, 30, 31] (fun (k3 : Int) (w112 : World) => 0 ≤ k3 ∧ k3 ≤ n ∧ Own w90.heap.size w90 w112 [some (vch b31 4 n (fun i => .bool (g3 i)))]) (fun (k3 : Int) => ((n : Int) - k3).toNat) (0) ?_ (And.intro (by first | with_reducible rfl | exact slot_int rfl (by first | omega) | rfl) (And.intro rfl (And.intro rfl (And.intro rfl (And.intro rfl (And.intro rfl (And.intro rfl (And.intro rfl trivial)))))))) ?_
                            · exact ⟨by omega, by omega, hO2⟩
                            intro k3 w112 hIw112 ih113
                            obtain ⟨hk30, hk31, hO⟩ := hIw112
                            show Run _ _ _ _ [(35, _), (5, _), (7, _), (9, _), (10, _), (28, _), (30, _), (31, _)] _ _
                            refine run_seq ?_
                            refine run_seq ?_
                            refine run_region ?_
                            refine rl_v rfl rfl rfl (ov_move rfl rfl) ?_
                            refine rl_v rfl rfl rfl (ov_move rfl rfl) ?_
                            refine rl_v rfl rfl rfl (ov_lss rfl rfl rfl) ?_
                            refine rl_nil ?_
                            first | refine run_cond_dec rfl (fun h25 => ?_) (fun h25 => ?_) | refine run_cond rfl (fun h25 => ?_) (fun h25 => ?_)
                            · refine run_skip ?_
                              refine run_seq ?_
                              refine run_block ?_
                              refine run_seq ?_
                              refine run_region ?_
                              refine rl_v rfl rfl rfl (ov_move rfl rfl) ?_
                              refine rl_v rfl rfl rfl (ov_move rfl rfl) ?_
                              refine rl_v rfl rfl rfl (ov_index1 rfl Try.underlying48 (by kernel_rfl) rfl rfl ⟨by omega, by omega⟩ (by first | rfl | exact hga2 (by omega) | exact hra2 _ (by omega) (by omega) (by omega) | exact hla (by omega))) ?_
                              refine rl_v rfl rfl rfl (ov_load rfl Try.underlying4 rfl rfl (by first | exact hrow2 _ hO.below _ (by omega) (by omega) | exact hel2 _ hO.below _ (by omega) (by omega) _ (by omega) (by omega) | exact hlrow _ hO.below _ (by omega) (by omega) | exact hO.cellI 0 rfl _ (by omega) (by omega) | exact hO.cellL 0 rfl rfl | exact hO.cellI 1 rfl _ (by omega) (by omega) | exact hO.cellL 1 rfl rfl | exact hO.cellI 2 rfl _ (by omega) (by omega) | exact hO.cellL 2 rfl rfl | exact hO.cellI 3 rfl _ (by omega) (by omega) | exact hO.cellL 3 rfl rfl | exact hO.cellI 4 rfl _ (by omega) (by omega) | exact hO.cellL 4 rfl rfl | exact hO.cellI 5 rfl _ (by omega) (by omega) | exact hO.cellL 5 rfl rfl)) ?_
                              refine rl_nil ?_
                              first | refine run_cond_dec rfl (fun h26 => ?_) (fun h26 => ?_) | refine run_cond rfl (fun h26 => ?_) (fun h26 => ?_)
                              · exfalso; rw [hall k3 hk30 h25] at h26; cases h26
                              · refine run_skip ?_
                                refine run_inBlock ?_
                                refine run_region ?_
                                refine rl_v rfl rfl rfl (ov_move rfl rfl) ?_
                                refine rl_v rfl rfl rfl (ov_add rfl rfl rfl (by omega)) ?_
                                refine rl_v rfl rfl rfl (ov_assign rfl rfl) ?_
                                refine rl_nil ?_
                                refine Run.use (ih113 _ _ ?_ ?_) (And.intro (by first | with_reducible rfl | exact slot_int rfl (by first | omega) | rfl) (And.intro rfl (And.intro rfl (And.intro rfl (And.intro rfl (And.intro rfl (And.intro rfl (And.intro rfl trivial))))))))
                                · first | omega | (dsimp only; omega)
                                · exact ⟨by omega, by omega, hO⟩
                            · have hOD := hOC.past hO.below
                              have hmd := mod_le (of0 0) ((n : Int) - 1) (by omega) (by omega)
                              rw [Int.sub_add_cancel] at hmd
                              have hme := mod50 (of0 1)
                              have hun : IntKind.u64.wrap (n : Int) ≠ 0 := by rw [IntWalk.u64_in _ (by omega)]; omega
                              have hcr := hcash (IntKind.i64.wrap (IntKind.u64.wrap (of0 0) % IntKind.u64.wrap (n : Int)))
                              refine run_exit rfl ?_
                              refine run_seq ?_
                              refine run_region ?_
                              refine rl_v rfl rfl rfl (ov_indexA1 rfl Try.underlying65 (by kernel_rfl) rfl rfl ⟨by omega, by omega⟩) ?_
                              refine rl_v rfl rfl rfl (ov_load rfl Try.underlying2 rfl rfl (by first | exact hOD.cellI 3 rfl _ (by omega) (by omega))) ?_
                              refine rl_v rfl rfl rfl (ov_conv rfl Try.underlying2 Try.underlying46 rfl) ?_
                              refine rl_v rfl rfl rfl (ov_move rfl rfl) ?_
                              refine rl_v rfl rfl rfl (ov_conv rfl Try.underlying3 Try.underlying46 rfl) ?_
                              refine rl_v rfl rfl rfl (ov_rem rfl rfl rfl (wrap_u64_nonneg _) hun) ?_
                              refine rl_v rfl rfl rfl (ov_conv rfl Try.underlying46 Try.underlying3 rfl) ?_
                              refine rl_v rfl rfl rfl (ov_assign rfl rfl) ?_
                              refine rl_nil ?_
                              refine run_seq ?_
                              refine run_tail 16 mixed (by kernel_rfl) ?_
                              have hO115 := hOD.drew
                              generalize World.drew w112 = w114 at hO115 ⊢
                              refine rt_v rfl rfl rfl (ov_fieldS rfl Try.underlying35 rfl (fo := 1) rfl (by kernel_rfl) rfl) ?_
                              refine rt_v rfl rfl rfl (ov_load rfl Try.underlying23 rfl rfl (by first | exact hO115.cellL 2 rfl rfl)) ?_
                              refine rt_v rfl rfl rfl (ov_move rfl rfl) ?_
                              refine rt_v rfl rfl rfl (ov_fieldS rfl Try.underlying35 rfl (fo := 1) rfl (by kernel_rfl) rfl) ?_
                              refine rt_v rfl rfl rfl (ov_load rfl Try.underlying23 rfl rfl (by first | exact hO115.cellL 2 rfl rfl)) ?_
                              refine rt_v rfl rfl rfl (ov_move rfl rfl) ?_
                              refine rt_v rfl rfl rfl (ov_index1 rfl Try.underlying23 (by kernel_rfl) rfl rfl ⟨by omega, by omega⟩ (by first | rfl | exact hga2 (by omega) | exact hra2 _ (by omega) (by omega) (by omega) | exact hla (by omega))) ?_
                              refine rt_v rfl rfl rfl (ov_load rfl Try.underlying2 rfl rfl (by first | exact (hO115.cellI 0 rfl (IntKind.i64.wrap (IntKind.u64.wrap (of0 0) % IntKind.u64.wrap (n : Int))) hmd.1 (by omega)).trans (congrArg some (hGc1 (IntKind.i64.wrap (IntKind.u64.wrap (of0 0) % IntKind.u64.wrap (n : Int))) hmd.1 (by omega))))) ?_
                              refine rt_v rfl rfl rfl (ov_indexA1 rfl Try.underlying65 (by kernel_rfl) rfl rfl ⟨by omega, by omega⟩) ?_
                              refine rt_v rfl rfl rfl (ov_load rfl Try.underlying2 rfl rfl (by first | exact hO115.cellI 3 rfl _ (by omega) (by omega))) ?_
                              refine rt_v rfl rfl rfl (ov_conv rfl Try.underlying2 Try.underlying46 rfl) ?_
                              refine rt_v rfl rfl rfl (ov_rem rfl rfl rfl (wrap_u64_nonneg _) (by decide)) ?_
                              refine rt_v rfl rfl rfl (ov_conv rfl Try.underlying46 Try.underlying2 rfl) ?_
                              refine rt_v rfl rfl rfl (ov_add rfl rfl rfl (by omega)) ?_
                              refine rt_v rfl rfl rfl (ov_min rfl rfl rfl) ?_
                              refine rt_v rfl rfl rfl (ov_index1 rfl Try.underlying23 (by kernel_rfl) rfl rfl ⟨by omega, by omega⟩ (by first | rfl | exact hga2 (by omega) | exact hra2 _ (by omega) (by omega) (by omega) | exact hla (by omega))) ?_
                              refine rt_nil ?_
                              refine rl_ow rfl (ow_store rfl rfl (by kernel_rfl) hO115 0 rfl rfl ⟨by omega, by omega⟩ rfl rfl) ?_
                              rintro _ w116 ⟨rfl, hO117, hs118⟩
                              have hup : ∀ i : Int, 0 ≤ i → i < n → upd Gc1 (IntKind.i64.wrap (IntKind.u64.wrap (of0 0) % IntKind.u64.wrap (n : Int))) (.int .i64 (min 1000000 (cash (IntKind.i64.wrap (IntKind.u64.wrap (of0 0) % IntKind.u64.wrap (n : Int))) + (IntKind.i64.wrap (IntKind.u64.wrap (of0 1) % 50))))) i = .int .i64 (upd cash (IntKind.i64.wrap (IntKind.u64.wrap (of0 0) % IntKind.u64.wrap (n : Int))) (min 1000000 (cash (IntKind.i64.wrap (IntKind.u64.wrap (of0 0) % IntKind.u64.wrap (n : Int))) + (IntKind.i64.wrap (IntKind.u64.wrap (of0 1) % 50)))) i) := fun i i0 i1 => by unfold upd; split; rfl; exact hGc1 i i0 i1
                              have hcu : ∀ i : Int, 0 ≤ i → i < n → 0 ≤ upd cash (IntKind.i64.wrap (IntKind.u64.wrap (of0 0) % IntKind.u64.wrap (n : Int))) (min 1000000 (cash (IntKind.i64.wrap (IntKind.u64.wrap (of0 0) % IntKind.u64.wrap (n : Int))) + (IntKind.i64.wrap (IntKind.u64.wrap (of0 1) % 50)))) i ∧ upd cash (IntKind.i64.wrap (IntKind.u64.wrap (of0 0) % IntKind.u64.wrap (n : Int))) (min 1000000 (cash (IntKind.i64.wrap (IntKind.u64.wrap (of0 0) % IntKind.u64.wrap (n : Int))) + (IntKind.i64.wrap (IntKind.u64.wrap (of0 1) % 50)))) i ≤ 1000000 := fun i i0 i1 => by unfold upd; split; omega; exact hcash i
                              refine rl_nil ?_
                              refine run_seq ?_
                              refine run_region ?_
                              refine rl_v rfl rfl rfl (ov_loadW rfl Try.underlying35 rfl (by kernel_rfl) rfl hO117 2 rfl) ?_
                              refine rl_call callable_20 rfl rfl rfl rfl rfl rfl (give_any to (some ⟨cb1, 0, none⟩) n tc n xc _) (fun e119 w120 hp121 => ?_)
                              obtain ⟨rfl, hbg2⟩ := hp121
                              refine ⟨_, rfl, ?_⟩
                              have hO122 := hO117.past hbg2
                              refine rl_call callable_32 rfl rfl rfl rfl rfl rfl (Clear_any to (some ⟨cb1, 0, none⟩) n tc xc D (upd cash (IntKind.i64.wrap (IntKind.u64.wrap (of0 0) % IntKind.u64.wrap (n : Int))) (min 1000000 (cash (IntKind.i64.wrap (IntKind.u64.wrap (of0 0) % IntKind.u64.wrap (n : Int))) + (IntKind.i64.wrap (IntKind.u64.wrap (of0 1) % 50))))) _ hv hcu (hT.reads (H' := []) (by rw [List.append_nil]; exact hO122.sub (.cons _ (.cons _ (.cons _ (.cons _ (.refl _))))))) (((hO122.readsI 0 rfl).take hqc1).congr hup)) (fun e123 w124 hp125 => ?_)
                              obtain ⟨v37, pm, c37, rfl, hpm, hr37, hO37⟩ := hp125
                              refine ⟨_, rfl, ?_⟩
                              have hO126 := hO122.join hO37
                              have hmono := hp.more hpm (fun i i0 i1 => by unfold upd; split; (rename_i e; rw [e]; omega); exact Int.le_refl _)
                              refine rl_v rfl rfl rfl (ov_move rfl rfl) ?_
                              refine rl_v rfl rfl rfl (ov_extract rfl rfl (by rfl)) ?_
                              refine rl_v rfl rfl rfl (ov_extract rfl rfl (by rfl)) ?_
                              refine rl_v rfl rfl rfl (ov_assign rfl rfl) ?_
                              refine rl_v rfl rfl rfl (ov_assign rfl rfl) ?_
                              refine rl_nil ?_
                              refine run_seq ?_
                              refine run_seq ?_
                              refine run_region ?_
                              refine rl_v rfl rfl rfl (ov_move rfl rfl) ?_
                              refine rl_v rfl rfl rfl (ov_neq rfl rfl rfl) ?_
                              refine rl_v rfl rfl rfl (ov_move rfl rfl) ?_
                              first | refine rl_split_dec 344 rfl (fun g10 => ?_) (fun g10 => ?_) | refine rl_split 344 rfl (fun g10 => ?_) (fun g10 => ?_)
                              · refine rl_gskip rfl rfl rfl rfl rfl rfl ?_
                                refine rl_gskip rfl rfl rfl rfl rfl rfl ?_
                                refine rl_v rfl rfl rfl (ov_pick_t rfl rfl rfl) ?_
                                refine rl_v rfl rfl rfl (ov_move rfl rfl) ?_
                                refine rl_gskip rfl rfl rfl rfl rfl rfl ?_
                                refine rl_gskip rfl rfl rfl rfl rfl rfl ?_
                                refine rl_v rfl rfl rfl (ov_pick_t rfl rfl rfl) ?_
                                refine rl_v rfl rfl rfl (ov_move rfl rfl) ?_
                                refine rl_gskip rfl rfl rfl rfl rfl rfl ?_
                                refine rl_gskip rfl rfl rfl rfl rfl rfl ?_
                                refine rl_gskip rfl rfl rfl rfl rfl rfl ?_
                                refine rl_gskip rfl rfl rfl rfl rfl rfl ?_
                                refine rl_v rfl rfl rfl (ov_pick_t rfl rfl rfl) ?_
                                refine rl_nil ?_
                                refine run_cond_t rfl ?_
                                exfalso; exact g10 rfl
                              · refine rl_gv rfl rfl rfl rfl rfl (ov_move rfl rfl) ?_
                                refine rl_gv rfl rfl rfl rfl rfl (ov_neq rfl rfl rfl) ?_
                                refine rl_v rfl rfl rfl (ov_pick_f rfl rfl rfl) ?_
                                refine rl_v rfl rfl rfl (ov_move rfl rfl) ?_
                                first | refine rl_split_dec 348 rfl (fun g11 => ?_) (fun g11 => ?_) | refine rl_split 348 rfl (fun g11 => ?_) (fun g11 => ?_)
                                · refine rl_gskip rfl rfl rfl rfl rfl rfl ?_
                                  refine rl_gskip rfl rfl rfl rfl rfl rfl ?_
                                  refine rl_v rfl rfl rfl (ov_pick_t rfl rfl rfl) ?_
                                  refine rl_v rfl rfl rfl (ov_move rfl rfl) ?_
                                  refine rl_gskip rfl rfl rfl rfl rfl rfl ?_
                                  refine rl_gskip rfl rfl rfl rfl rfl rfl ?_
                                  refine rl_gskip rfl rfl rfl rfl rfl rfl ?_
                                  refine rl_gskip rfl rfl rfl rfl rfl rfl ?_
                                  refine rl_v rfl rfl rfl (ov_pick_t rfl rfl rfl) ?_
                                  refine rl_nil ?_
                                  refine run_cond_t rfl ?_
                                  exfalso; exact g11 rfl
                                · refine rl_gv rfl rfl rfl rfl rfl (ov_move rfl rfl) ?_
                                  refine rl_gv rfl rfl rfl rfl rfl (ov_neq rfl rfl rfl) ?_
                                  refine rl_v rfl rfl rfl (ov_pick_f rfl rfl rfl) ?_
                                  refine rl_v rfl rfl rfl (ov_move rfl rfl) ?_
                                  first | refine rl_split_dec 352 rfl (fun g12 => ?_) (fun g12 => ?_) | refine rl_split 352 rfl (fun g12 => ?_) (fun g12 => ?_)
                                  · refine rl_gskip rfl rfl rfl rfl rfl rfl ?_
                                    refine rl_gskip rfl rfl rfl rfl rfl rfl ?_
                                    refine rl_gskip rfl rfl rfl rfl rfl rfl ?_
                                    refine rl_gskip rfl rfl rfl rfl rfl rfl ?_
                                    refine rl_v rfl rfl rfl (ov_pick_t rfl rfl rfl) ?_
                                    refine rl_nil ?_
                                    refine run_cond_t rfl ?_
                                    exfalso; exact g12 rfl
                                  · obtain ⟨a37, x37, rfl⟩ := hr37.val
                                    refine rl_gv rfl rfl rfl rfl rfl (ov_move rfl rfl) ?_
                                    refine rl_gv rfl rfl rfl rfl rfl (ov_len rfl Try.underlying23 rfl) ?_
                                    refine rl_gv rfl rfl rfl rfl rfl (ov_move rfl rfl) ?_
                                    refine rl_gv rfl rfl rfl rfl rfl (ov_neq rfl rfl rfl) ?_
                                    refine rl_v rfl rfl rfl (ov_pick_f rfl rfl rfl) ?_
                                    refine rl_nil ?_
                                    first | refine run_cond_dec rfl (fun h27 => ?_) (fun h27 => ?_) | refine run_cond rfl (fun h27 => ?_) (fun h27 => ?_)
                                    · exfalso; exact h27 rfl
                                    · obtain ⟨b37, G37, rfl, hq371, hq372, rfl, hG37⟩ := hr37.asV hn1
                                      have hOE := hO126.sub (H' := [some (vch b37 2 x37 G37), some (vch b10 2 x10 G10)]) (.cons_cons _ (.cons _ (.cons_cons _ (List.nil_sublist _))))
                                      refine run_skip ?_
                                      refine run_seq ?_
                                      refine run_seq ?_
                                      refine run_region ?_
                                      refine rl_v rfl rfl rfl (ov_assign rfl rfl) ?_
                                      refine rl_nil ?_
                                      refine run_block ?_
                                      refine Run.keep [9, 10, 37, 39] (F' := [(9, _), (10, _), (37, _), (39, _)]) rfl ?_
                                      refine run_loop1 (fun (k : Int) => [(39, .int .i64 k)]) [9, 10, 37] (fun (k : Int) (w130 : World) => 0 ≤ k ∧ k ≤ n ∧ Own w.heap.size w w130 [some (vch b37 2 x37 G37), some (vch b10 2 x10 G10)]) (fun (k : Int) => ((n : Int) - k).toNat) (0) ?_ (And.intro (by first | with_reducible rfl | exact slot_int rfl (by first | omega) | rfl) (And.intro rfl (And.intro rfl (And.intro rfl trivial)))) ?_
                                      · exact ⟨by omega, by omega, hOE⟩
                                      intro k w130 hIw130 ih131
                                      obtain ⟨hk0, hk1, hO⟩ := hIw130
                                      show Run _ _ _ _ [(39, _), (9, _), (10, _), (37, _)] _ _
                                      refine run_seq ?_
                                      refine run_seq ?_
                                      refine run_region ?_
                                      refine rl_v rfl rfl rfl (ov_move rfl rfl) ?_
                                      refine rl_v rfl rfl rfl (ov_move rfl rfl) ?_
                                      refine rl_v rfl rfl rfl (ov_lss rfl rfl rfl) ?_
                                      refine rl_nil ?_
                                      first | refine run_cond_dec rfl (fun h28 => ?_) (fun h28 => ?_) | refine run_cond rfl (fun h28 => ?_) (fun h28 => ?_)
                                      · have hmk := hmono k hk0 h28
                                        refine run_skip ?_
                                        refine run_seq ?_
                                        refine run_block ?_
                                        refine run_seq ?_
                                        refine run_quiet mixed (by kernel_rfl) ?_
                                        refine rq_v rfl rfl rfl (fun _ => ov_move rfl rfl) ?_
                                        refine rq_v rfl rfl rfl (fun _ => ov_move rfl rfl) ?_
                                        refine rq_v rfl rfl rfl (fun _ => ov_index1 rfl Try.underlying23 (by kernel_rfl) rfl rfl ⟨by omega, by omega⟩ (by first | rfl | exact hga2 (by omega) | exact hra2 _ (by omega) (by omega) (by omega) | exact hla (by omega))) ?_
                                        refine rq_v rfl rfl rfl (fun _ => ov_load rfl Try.underlying2 rfl rfl (by show World.cell? w130 _ = _; first | exact (hO.cellI 0 rfl k hk0 (by omega)).trans (congrArg some (hG37 k hk0 h28)))) ?_
                                        refine rq_v rfl rfl rfl (fun _ => ov_move rfl rfl) ?_
                                        refine rq_v rfl rfl rfl (fun _ => ov_move rfl rfl) ?_
                                        refine rq_v rfl rfl rfl (fun _ => ov_index1 rfl Try.underlying23 (by kernel_rfl) rfl rfl ⟨by omega, by omega⟩ (by first | rfl | exact hga2 (by omega) | exact hra2 _ (by omega) (by omega) (by omega) | exact hla (by omega))) ?_
                                        refine rq_v rfl rfl rfl (fun _ => ov_load rfl Try.underlying2 rfl rfl (by show World.cell? w130 _ = _; first | exact (hO.cellI 1 rfl k hk0 (by omega)).trans (congrArg some (hG10 k hk0 h28)))) ?_
                                        refine rq_v rfl rfl rfl (fun _ => ov_lss rfl rfl rfl) ?_
                                        refine rq_nil (fun n132 => ?_)
                                        have hO134 := hO.drewN n132
                                        generalize World.drewN w130 n132 = w133 at hO134 ⊢
                                        first | refine run_cond_dec rfl (fun h29 => ?_) (fun h29 => ?_) | refine run_cond rfl (fun h29 => ?_) (fun h29 => ?_)
                                        · exfalso; omega
                                        · refine run_skip ?_
                                          refine run_inBlock ?_
                                          refine run_region ?_
                                          refine rl_v rfl rfl rfl (ov_move rfl rfl) ?_
                                          refine rl_v rfl rfl rfl (ov_add rfl rfl rfl (by omega)) ?_
                                          refine rl_v rfl rfl rfl (ov_assign rfl rfl) ?_
                                          refine rl_nil ?_
                                          refine Run.use (ih131 _ _ ?_ ?_) (And.intro (by first | with_reducible rfl | exact slot_int rfl (by first | omega) | rfl) (And.intro rfl (And.intro rfl (And.intro rfl trivial))))
                                          · first | omega | (dsimp only; omega)
                                          · exact ⟨by omega, by omega, hO134⟩
                                      · refine run_exit rfl ?_
                                        refine run_seq ?_
                                        refine run_region ?_
                                        refine rl_call callable_18 rfl rfl rfl rfl rfl rfl (awake_any _) (fun e135 w136 hp137 => ?_)
                                        obtain ⟨rfl, hb9⟩ := hp137
                                        refine ⟨_, rfl, ?_⟩
                                        have hO138 := hO.past hb9
                                        refine rl_v rfl rfl rfl (ov_assign rfl rfl) ?_
                                        refine rl_nil ?_
                                        refine run_ret Try.func7 (res1 Try.results7 rfl) ?_
                                        exact ⟨rfl, hO138.below⟩
end Go.Proofs.Ytiambddcpflkhaa
