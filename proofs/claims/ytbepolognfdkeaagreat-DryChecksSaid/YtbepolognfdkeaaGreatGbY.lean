import Derived.Test.YtbepolognfdkeaaGreatGaP
set_option maxRecDepth 100000
namespace Go.Proofs.YtbepolognfdkeaaGreat
open Go.RowKit Go.Proofs Go.MapKept
theorem ov_buildA3 {P : Program} {N : Nat} {o : Oper} {F : Fr} {w : World} {T E : TypeId} {x y u : Operand} {z a b c : Value} (ho : o.op = .build T #[(0, x), (1, y), (2, u)]) (hT : P.underlying T = some (.array 3 E)) (hz : (P.info? T).map (·.zero) = some (some z)) (hs : (P.info? E).map (·.size) = some 1)
  (hzc : z.cells.size = 3) (hx : Fr.ev F x = some a) (hy : Fr.ev F y = some b) (hu : Fr.ev F u = some c) (ha1 : a.oneCell' = true) (hb1 : b.oneCell' = true) (hc1 : c.oneCell' = true) : OpV P N o F w (.agg #[a, b, c]) := by
 intro ac hac
 obtain ⟨it, hit, hz0⟩ := Option.map_eq_some_iff.1 hz
 obtain ⟨ie, hie, hse⟩ := Option.map_eq_some_iff.1 hs
 obtain ⟨c0, c1, c2, hc⟩ : ∃ c0 c1 c2, z.cells = #[c0, c1, c2] := by
  obtain ⟨l, hl⟩ : ∃ l, l = z.cells.toList := ⟨_, rfl⟩
  have hll : l.length = 3 := by rw [hl]; simpa using hzc
  match l, hll, hl with
  | [c0, c1, c2], _, hl => exact ⟨c0, c1, c2, by apply Array.ext'; rw [← hl]⟩
 have hca := cells_one ha1
 have hcb := cells_one hb1
 have hcc := cells_one hc1
 have h1 : (Instr.build T #[(0, a), (1, b), (2, c)]).run P w = .ok (.agg #[a, b, c]) w := by
  unfold Instr.build
  simp [zeroValue, typeInfo, hit, hz0, run_underlying hT, sizeOf, hie, hse, Instr.fill, Result.andThen, hc, hca, hcb, hcc]
 unfold execOp
 rw [ho]
 simp [hac.ev hx, hac.ev hy, hac.ev hu, h1, Result.andThen]
theorem trF_set {T : List Trn} {b n : Int} (hT : 0 < T.length) (hn : (qT T ((T.length : Int) - 1)).2.2 = n) : ∀ i : Int, 0 ≤ i → i < T.length → upd (trF T) ((T.length : Int) - 1) ((trF T ((T.length : Int) - 1)).set 1 (iv b)) i = trF (T.set (T.length - 1) ((qT T ((T.length : Int) - 1)).1, b, n)) i := fun i i0 i1 => by
 by_cases c : i = (T.length : Int) - 1
 ·rw [c, upd_same]
  unfold trF
  rw [List.getD_eq_getElem?_getD (l := T.set _ _), List.getElem?_set, if_pos (by omega), if_pos (by omega)]
  show [iv (qT T ((T.length : Int) - 1)).1, iv b, iv (qT T ((T.length : Int) - 1)).2.2] = [iv (qT T ((T.length : Int) - 1)).1, iv b, iv n]
  rw [hn]
 ·rw [upd_ne _ _ c]
  unfold trF
  rw [List.getD_eq_getElem?_getD (l := T.set _ _), List.getElem?_set, if_neg (by omega), ← List.getD_eq_getElem?_getD]
theorem stepB_same {T : List Trn} {a b n : Int} (c : 0 < T.length ∧ (qT T ((T.length : Int) - 1)).2.2 = n ∧ (qT T ((T.length : Int) - 1)).2.1 = a) : stepB T a b n = T.set (T.length - 1) ((qT T ((T.length : Int) - 1)).1, b, n) := by unfold stepB; rw [if_pos c]
theorem stepB_new {T : List Trn} {a b n : Int} (c : ¬ (0 < T.length ∧ (qT T ((T.length : Int) - 1)).2.2 = n ∧ (qT T ((T.length : Int) - 1)).2.1 = a)) (h : 0 < n) : stepB T a b n = T ++ [(a, b, n)] := by unfold stepB; rw [if_neg c, if_pos h]
theorem stepB_zero {T : List Trn} {a b n : Int} (c : ¬ (0 < T.length ∧ (qT T ((T.length : Int) - 1)).2.2 = n ∧ (qT T ((T.length : Int) - 1)).2.1 = a)) (h : ¬ 0 < n) : stepB T a b n = T := by unfold stepB; rw [if_neg c, if_neg h]
set_option maxHeartbeats 4000000 in
theorem Busy_any (la : Option Addr) (lc : Nat) (l : Lds) (w : World) (hn : l.n ≤ 100000) (hI : l.I64) (hl : SAt w.heap.size w la 4 l.n (ldF l)) :
  Calls Tryz.prog 20 #[.slice la l.n lc] w fun e w' => ∃ (ba : Option Addr) (bc : Nat) (T : List Trn) (cb : Option Blk) (c : Nat) (X : Int → Int), e = .returned (.tuple #[.slice ba T.length bc, iv l.chk]) ∧ SRow (.slice ba T.length bc) 95 3 T.length (trF T) cb ∧
   (l.chk = 0 → Cuts l c X ∧ T = bzK l X (c - 1)) ∧ (l.chk ≠ 0 → T = []) ∧ Own w.heap.size w w' [cb] := by
 obtain ⟨lb, lo, hla, hlr⟩ := hl.open (by decide)
 refine calls_of_run (F := [(0, _)]) Tryz.func20 rfl Tryz.ntmps20 rfl rfl ?_
 have hO0 := Own.init w
 refine run_seq <| run_region <| rl_v rfl rfl rfl (ov_assign rfl rfl) <| rl_v rfl rfl rfl (ov_assign rfl rfl) <| rl_nil <| run_seq <| run_seq <| run_region <| rl_v rfl rfl rfl (ov_move rfl rfl) ?_
 refine rl_call callable_8 rfl rfl rfl rfl rfl rfl (check7_any la lc l _ hn hI (hO0.satU hl)) (fun e1 w2 hp3 => ?_)
 obtain ⟨rfl, hOa⟩ := hp3
 refine ⟨_, rfl, ?_⟩
 have hO4 := hO0.join hOa
 refine rl_v rfl rfl rfl (ov_assign rfl rfl) <| rl_nil <| run_seq <| run_region <| rl_v rfl rfl rfl (ov_move rfl rfl) <| rl_v rfl rfl rfl (ov_neq rfl rfl rfl) <| rl_nil ?_
 first | refine run_cond_dec rfl (fun c1 => ?_) (fun c1 => ?_) | refine run_cond rfl (fun c1 => ?_) (fun c1 => ?_)
 ·refine run_seq <| run_region <| rl_v rfl rfl rfl (ov_move rfl rfl) <| rl_v rfl rfl rfl (ov_assign rfl rfl) <| rl_v rfl rfl rfl (ov_assign rfl rfl) <| rl_nil <| run_ret Tryz.func20 (res2 Tryz.results20 rfl rfl) ?_
  exact ⟨none, 0, [], none, 0, fun _ => 0, rfl, SRow.nil _ _ _, fun h => absurd h c1, fun _ => rfl, hO4.nil_cons⟩
 ·have c1' : l.chk = 0 := Classical.not_not.1 c1
  obtain ⟨h1, h2⟩ := Lds.of_chk c1'
  have hF := h2.fit
  refine run_skip <| run_seq <| run_region <| rl_v rfl rfl rfl (ov_assign rfl rfl) <| rl_nil <| run_seq <| run_seq <| run_region <| rl_v rfl rfl rfl (ov_move rfl rfl) ?_
  refine rl_call callable_45 rfl rfl rfl rfl rfl rfl (spans_any la lc l _ (by omega) (fun i i0 i1 => ⟨hF.r0 i i0 i1, Int.le_trans (hF.dM i i0 i1) (by decide)⟩) (hO4.satU hl)) (fun e5 w6 hp7 => ?_)
  obtain ⟨sa, sc, c, X, cs, rfl, hC, hsp, hOb⟩ := hp7
  refine ⟨_, rfl, ?_⟩
  have hO8 := hO4.join hOb
  have hOn := hO8.nil_cons
  have hcle := hC.le
  obtain ⟨sb, hsa⟩ := hsp.addr
  refine rl_v rfl rfl rfl (ov_len rfl Tryz.underlying37 rfl) <| rl_v rfl rfl rfl (ov_move rfl rfl) <| rl_nil <| run_block <| Run.keep [0, 5, 18, 19, 20] (F' := [(0, _), (5, _), (18, _), (19, _), (20, _)]) rfl <| run_loop2 (fun (k : Nat) (v : Value) => [(20, .int .i64 (k : Int)), (5, v)]) [0, 18, 19] (fun (k : Nat) (v : Value) (w9 : World) => k ≤ c - 1 ∧ ∃ cb : Option Blk, SRow v 95 3 (bzK l X k).length (trF (bzK l X k)) cb ∧ Own w.heap.size w w9 [cb, cs]) (fun (k : Nat) (v : Value) => c - 1 - k) (0) (.slice none 0 0) ?_ (And.intro (by exact slot_int rfl (by first | omega)) (And.intro rfl (And.intro rfl (And.intro rfl (And.intro rfl trivial))))) ?_
  ·exact ⟨Nat.zero_le _, none, SRow.nil _ _ _, hOn⟩
  intro k v w9 hIw9 ih10
  obtain ⟨hk, cb, hr, hOc⟩ := hIw9
  show Run _ _ _ _ [(20, _), (5, _), (0, _), (18, _), (19, _)] _ _
  refine run_seq <| run_region <| rl_v rfl rfl rfl (ov_lss rfl rfl rfl) <| rl_nil <| run_seq ?_
  first | refine run_cond_dec rfl (fun c2 => ?_) (fun c2 => ?_) | refine run_cond rfl (fun c2 => ?_) (fun c2 => ?_)
  ·have hX0 := hC.rng hF (j := k) (by omega) (by omega)
   have hX1 := hC.rng hF (j := k + 1) (by omega) (by omega)
   refine run_skip <| run_seq <| run_block <| run_seq <| run_region <| rl_v rfl rfl rfl (ov_index rfl Tryz.underlying37 (by kernel_rfl) (s := 2) rfl rfl ⟨by omega, by omega⟩ (by exact hsa (by omega))) ?_
   refine rl_v rfl rfl rfl (ov_loadE rfl Tryz.underlying79 rfl (by kernel_rfl) rfl ⟨by omega, by omega⟩ rfl ((hsp.cellU hOc 1 rfl (hsa (by omega))))) ?_
   refine rl_ow rfl (ow_alloc [iv 0, iv 0] rfl rfl rfl zero_79 rfl hOc) ?_
   rintro _ w11 ⟨t7, rfl, hO12, hs13⟩
   refine rl_ow rfl (ow_storeW rfl rfl (by kernel_rfl) hO12 0 rfl rfl (by rfl) rfl (by rfl)) ?_
   rintro _ w14 ⟨rfl, hO15, hs16⟩
   refine rl_nil <| run_seq <| run_region <| rl_v rfl rfl rfl (ov_assign rfl rfl) <| rl_nil <| run_seq <| run_seq <| run_region <| rl_v rfl rfl rfl (ov_move rfl rfl) <| rl_v rfl rfl rfl (ov_len rfl Tryz.underlying24 rfl) <| rl_v rfl rfl rfl (ov_move rfl rfl) <| rl_nil <| run_block <| Run.keep [0, 5, 7, 8, 18, 19, 20, 24, 25, 26] (F' := [(0, _), (5, _), (7, _), (8, _), (18, _), (19, _), (20, _), (24, _), (25, _), (26, _)]) rfl <| run_loop2 (fun (j : Nat) (n : Int) => [(26, .int .i64 (j : Int)), (8, .int .i64 n)]) [0, 5, 7, 18, 19, 20, 24, 25] (fun (j : Nat) (n : Int) (w17 : World) => j ≤ l.n ∧ n = sm (fun i => ind (l.In X i k)) j ∧ Own w.heap.size w w17 [some (lch t7 79 (spF X k)), cb, cs]) (fun (j : Nat) (n : Int) => l.n - j) (0) (0) ?_ (And.intro (by exact slot_int rfl (by first | omega)) (And.intro (by exact slot_int rfl (by first | omega)) (And.intro rfl (And.intro rfl (And.intro rfl (And.intro rfl (And.intro rfl (And.intro rfl (And.intro rfl (And.intro rfl trivial)))))))))) ?_
   ·exact ⟨Nat.zero_le _, rfl, hO15⟩
   intro j n w17 hIw17 ih18
   obtain ⟨hj, hnj, hOd⟩ := hIw17
   show Run _ _ _ _ [(26, _), (8, _), (0, _), (5, _), (7, _), (18, _), (19, _), (20, _), (24, _), (25, _)] _ _
   have hn0 : 0 ≤ n := by rw [hnj]; exact sm_nonneg fun _ _ _ => (ind_rng _).1
   have hn1 : n ≤ j * 1 := by rw [hnj]; exact sm_bound 1 (by omega) fun _ _ _ => (ind_rng _).2
   refine run_seq <| run_region <| rl_v rfl rfl rfl (ov_lss rfl rfl rfl) <| rl_nil <| run_seq ?_
   first | refine run_cond_dec rfl (fun c3 => ?_) (fun c3 => ?_) | refine run_cond rfl (fun c3 => ?_) (fun c3 => ?_)
   ·have hns : ∀ z : Int, z = ind (l.In X j k) → n + z = sm (fun i => ind (l.In X i k)) ((j + 1 : Nat) : Int) := fun z hz => by
     rw [show ((j + 1 : Nat) : Int) = (j : Int) + 1 by omega, sm_succ _ (by omega), ← hnj, hz]
    refine run_skip <| run_seq <| run_block <| run_seq <| run_region <| rl_v rfl rfl rfl (ov_index rfl Tryz.underlying24 (by kernel_rfl) (s := 4) rfl rfl ⟨by omega, by omega⟩ (by exact hla (by omega))) ?_
    refine rl_v rfl rfl rfl (ov_loadE rfl Tryz.underlying58 rfl (by kernel_rfl) rfl ⟨by omega, by omega⟩ rfl (hlr _ hOd.below)) ?_
    refine rl_ow rfl (ow_alloc _ rfl rfl rfl zero_58 rfl hOd) ?_
    rintro _ w19 ⟨t10, rfl, hO20, hs21⟩
    refine rl_ow rfl (ow_storeW rfl rfl (by kernel_rfl) hO20 0 rfl rfl (by rfl) rfl (by rfl)) ?_
    rintro _ w22 ⟨rfl, hO23, hs24⟩
    refine rl_nil <| run_seq <| run_region_join 41 (.bool (decide (l.r j ≤ X k ∧ X (k + 1) ≤ l.d j))) [0, 5, 7, 8, 18, 19, 20, 24, 25, 26] (fun hk25 => ?_) ?_
    ·refine rl_v rfl rfl rfl (ov_fieldS rfl Tryz.underlying58 rfl (fo := 0) rfl (by kernel_rfl) rfl) ?_
     refine rl_v rfl rfl rfl (ov_load rfl Tryz.underlying3 rfl rfl (by exact hO23.cellL 0 rfl (off := 0) rfl)) ?_
     refine rl_v rfl rfl rfl (ov_indexA1 rfl Tryz.underlying79 (by kernel_rfl) rfl rfl ⟨by omega, by omega⟩) ?_
     refine rl_v rfl rfl rfl (ov_load rfl Tryz.underlying3 rfl rfl (by exact hO23.cellL 1 rfl (off := 0) rfl)) ?_
     refine rl_v rfl rfl rfl (ov_leq rfl rfl rfl) <| rl_v rfl rfl rfl (ov_move rfl rfl) ?_
     first | refine rl_split_dec 35 rfl (fun hg26 => ?_) (fun hg26 => ?_) | refine rl_split 35 rfl (fun hg26 => ?_) (fun hg26 => ?_)
     ·refine rl_gv rfl rfl rfl rfl rfl (ov_indexA1 rfl Tryz.underlying79 (by kernel_rfl) rfl rfl ⟨by omega, by omega⟩) ?_
      refine rl_gv rfl rfl rfl rfl rfl (ov_load rfl Tryz.underlying3 rfl rfl (by exact hO23.cellL 1 rfl (off := 1) rfl)) ?_
      refine rl_gv rfl rfl rfl rfl rfl (ov_fieldS rfl Tryz.underlying58 rfl (fo := 1) rfl (by kernel_rfl) rfl) ?_
      refine rl_gv rfl rfl rfl rfl rfl (ov_load rfl Tryz.underlying3 rfl rfl (by exact hO23.cellL 0 rfl (off := 1) rfl)) ?_
      refine rl_gv rfl rfl rfl rfl rfl (ov_leq rfl rfl rfl) <| rl_v rfl rfl rfl (ov_pick_t rfl rfl rfl) ?_
      refine rl_nil (hk25 _ (jbd rfl (by omega)) (And.intro rfl (And.intro rfl (And.intro rfl (And.intro rfl (And.intro rfl (And.intro rfl (And.intro rfl (And.intro rfl (And.intro rfl (And.intro rfl trivial)))))))))))
     ·refine rl_gskip rfl rfl rfl rfl rfl rfl <| rl_gskip rfl rfl rfl rfl rfl rfl <| rl_gskip rfl rfl rfl rfl rfl rfl <| rl_gskip rfl rfl rfl rfl rfl rfl <| rl_gskip rfl rfl rfl rfl rfl rfl <| rl_v rfl rfl rfl (ov_pick_f rfl rfl rfl) ?_
      refine rl_nil (hk25 _ (jbf rfl (by omega)) (And.intro rfl (And.intro rfl (And.intro rfl (And.intro rfl (And.intro rfl (And.intro rfl (And.intro rfl (And.intro rfl (And.intro rfl (And.intro rfl trivial)))))))))))
    ·show Run _ _ _ _ [(41, _), (0, _), (5, _), (7, _), (8, _), (18, _), (19, _), (20, _), (24, _), (25, _), (26, _)] _ _
     first | refine run_cond_dec rfl (fun c4 => ?_) (fun c4 => ?_) | refine run_cond rfl (fun c4 => ?_) (fun c4 => ?_)
     ·have hz := hns 1 (ind_t (show l.In X j k from c4)).symm
      refine run_region <| rl_v rfl rfl rfl (ov_move rfl rfl) <| rl_v rfl rfl rfl (ov_add rfl rfl rfl (by omega)) ?_
      refine rl_v rfl rfl rfl (ov_assign rfl rfl) <| rl_nil <| run_inBlock <| run_region <| rl_v rfl rfl rfl (ov_add rfl rfl rfl (by omega)) ?_
      refine rl_v rfl rfl rfl (ov_move rfl rfl) <| rl_nil ?_
      refine Run.use (ih18 (j + 1) (n + 1) _ ?_ ?_) (And.intro (by exact slot_int rfl (by first | omega)) (And.intro (by exact slot_int rfl (by first | omega)) (And.intro rfl (And.intro rfl (And.intro rfl (And.intro rfl (And.intro rfl (And.intro rfl (And.intro rfl (And.intro rfl trivial))))))))))
      ·first | omega | (dsimp only; omega)
      ·exact ⟨by omega, hz, hO23.tail⟩
     ·have hz := hns 0 (ind_f (show ¬ l.In X j k from c4)).symm
      refine run_skip <| run_inBlock <| run_region <| rl_v rfl rfl rfl (ov_add rfl rfl rfl (by omega)) ?_
      refine rl_v rfl rfl rfl (ov_move rfl rfl) <| rl_nil ?_
      refine Run.use (ih18 (j + 1) (n) _ ?_ ?_) (And.intro (by exact slot_int rfl (by first | omega)) (And.intro (by exact slot_int rfl (by first | omega)) (And.intro rfl (And.intro rfl (And.intro rfl (And.intro rfl (And.intro rfl (And.intro rfl (And.intro rfl (And.intro rfl trivial))))))))))
      ·first | omega | (dsimp only; omega)
      ·exact ⟨by omega, by omega, hO23.tail⟩
   ·have hjn : j = l.n := by omega
    rw [hjn] at hnj
    have hlen := bzK_len l X k
    obtain ⟨ba, bc, rfl⟩ := Row.val hr
    obtain ⟨bb, hba⟩ := hr.addr
    obtain ⟨T, hT⟩ : ∃ T, T = bzK l X k := ⟨_, rfl⟩
    have hst : bzK l X (k + 1) = stepB T (X k) (X (k + 1)) n := by rw [bzK_stepB, hT, hnj]; rfl
    rw [← hT] at hr hlen hba ⊢
    obtain ⟨u, hu⟩ : ∃ u, u = qT T ((T.length : Int) - 1) := ⟨_, rfl⟩
    refine run_exit rfl <| run_seq <| run_region <| rl_v rfl rfl rfl (ov_move rfl rfl) <| rl_v rfl rfl rfl (ov_len rfl Tryz.underlying51 rfl) <| rl_v rfl rfl rfl (ov_sub rfl rfl rfl (by omega)) ?_
    refine rl_v rfl rfl rfl (ov_assign rfl rfl) <| rl_nil <| run_seq ?_
    refine run_quiet_join mixed (by kernel_rfl) 68 (.bool (decide (0 < T.length ∧ u.2.2 = n ∧ u.2.1 = X k))) [0, 5, 7, 8, 11, 18, 19, 20] (fun hk27 => ?_) (fun n28 => ?_)
    ·refine rq_v rfl rfl rfl (fun _ => ov_move rfl rfl) ?_
     refine rq_v rfl rfl rfl (fun _ => ov_geq rfl rfl rfl) ?_
     refine rq_v rfl rfl rfl (fun _ => ov_move rfl rfl) ?_
     first | refine rq_split_dec 50 rfl (fun hg29 => ?_) (fun hg29 => ?_) | refine rq_split 50 rfl (fun hg29 => ?_) (fun hg29 => ?_)
     ·refine rq_gv rfl rfl rfl rfl rfl (fun _ => ov_move rfl rfl) ?_
      refine rq_gv rfl rfl rfl rfl rfl (fun _ => ov_move rfl rfl) ?_
      refine rq_gv rfl rfl rfl rfl rfl (fun _ => ov_index rfl Tryz.underlying51 (by kernel_rfl) (s := 3) rfl rfl ⟨by omega, by omega⟩ (by exact hba (by omega))) ?_
      refine rq_gv rfl rfl rfl rfl rfl (fun _ => ov_indexA1 rfl Tryz.underlying95 (by kernel_rfl) rfl rfl ⟨by omega, by omega⟩) ?_
      refine rq_gv rfl rfl rfl rfl rfl (fun _ => ov_load rfl Tryz.underlying3 rfl rfl (by show World.cell? w17 _ = _; first | exact (hr.cellU hOd 1 rfl (hba (by omega)) ((T.length : Int) - 1) (by omega) (by omega) 2 (by decide)).trans (congrArg (fun z : Trn => some (iv z.2.2)) hu.symm))) ?_
      refine rq_gv rfl rfl rfl rfl rfl (fun _ => ov_move rfl rfl) ?_
      refine rq_gv rfl rfl rfl rfl rfl (fun _ => ov_eql rfl rfl rfl) ?_
      refine rq_v rfl rfl rfl (fun _ => ov_pick_t rfl rfl rfl) ?_
      refine rq_v rfl rfl rfl (fun _ => ov_move rfl rfl) ?_
      first | refine rq_split_dec 59 rfl (fun hg30 => ?_) (fun hg30 => ?_) | refine rq_split 59 rfl (fun hg30 => ?_) (fun hg30 => ?_)
      ·refine rq_gv rfl rfl rfl rfl rfl (fun _ => ov_move rfl rfl) ?_
       refine rq_gv rfl rfl rfl rfl rfl (fun _ => ov_move rfl rfl) ?_
       refine rq_gv rfl rfl rfl rfl rfl (fun _ => ov_index rfl Tryz.underlying51 (by kernel_rfl) (s := 3) rfl rfl ⟨by omega, by omega⟩ (by exact hba (by omega))) ?_
       refine rq_gv rfl rfl rfl rfl rfl (fun _ => ov_indexA1 rfl Tryz.underlying95 (by kernel_rfl) rfl rfl ⟨by omega, by omega⟩) ?_
       refine rq_gv rfl rfl rfl rfl rfl (fun _ => ov_load rfl Tryz.underlying3 rfl rfl (by show World.cell? w17 _ = _; first | exact (hr.cellU hOd 1 rfl (hba (by omega)) ((T.length : Int) - 1) (by omega) (by omega) 1 (by decide)).trans (congrArg (fun z : Trn => some (iv z.2.1)) hu.symm))) ?_
       refine rq_gv rfl rfl rfl rfl rfl (fun _ => ov_indexA1 rfl Tryz.underlying79 (by kernel_rfl) rfl rfl ⟨by omega, by omega⟩) ?_
       refine rq_gv rfl rfl rfl rfl rfl (fun _ => ov_load rfl Tryz.underlying3 rfl rfl (by show World.cell? w17 _ = _; first | exact hOd.cellL 0 rfl (off := 0) rfl)) ?_
       refine rq_gv rfl rfl rfl rfl rfl (fun _ => ov_eql rfl rfl rfl) ?_
       refine rq_v rfl rfl rfl (fun _ => ov_pick_t rfl rfl rfl) ?_
       refine rq_nil (fun n => hk27 n _ (jbd rfl (by omega)) (And.intro rfl (And.intro rfl (And.intro rfl (And.intro rfl (And.intro rfl (And.intro rfl (And.intro rfl (And.intro rfl trivial)))))))))
      ·refine rq_gskip rfl rfl rfl rfl rfl rfl <| rq_gskip rfl rfl rfl rfl rfl rfl <| rq_gskip rfl rfl rfl rfl rfl rfl <| rq_gskip rfl rfl rfl rfl rfl rfl <| rq_gskip rfl rfl rfl rfl rfl rfl <| rq_gskip rfl rfl rfl rfl rfl rfl <| rq_gskip rfl rfl rfl rfl rfl rfl <| rq_gskip rfl rfl rfl rfl rfl rfl <| rq_v rfl rfl rfl (fun _ => ov_pick_f rfl rfl rfl) ?_
       refine rq_nil (fun n => hk27 n _ (jbf rfl (by omega)) (And.intro rfl (And.intro rfl (And.intro rfl (And.intro rfl (And.intro rfl (And.intro rfl (And.intro rfl (And.intro rfl trivial)))))))))
     ·refine rq_gskip rfl rfl rfl rfl rfl rfl <| rq_gskip rfl rfl rfl rfl rfl rfl <| rq_gskip rfl rfl rfl rfl rfl rfl <| rq_gskip rfl rfl rfl rfl rfl rfl <| rq_gskip rfl rfl rfl rfl rfl rfl <| rq_gskip rfl rfl rfl rfl rfl rfl <| rq_gskip rfl rfl rfl rfl rfl rfl <| rq_v rfl rfl rfl (fun _ => ov_pick_f rfl rfl rfl) ?_
      refine rq_v rfl rfl rfl (fun _ => ov_move rfl rfl) ?_
      refine rq_gskip rfl rfl rfl rfl rfl rfl <| rq_gskip rfl rfl rfl rfl rfl rfl <| rq_gskip rfl rfl rfl rfl rfl rfl <| rq_gskip rfl rfl rfl rfl rfl rfl <| rq_gskip rfl rfl rfl rfl rfl rfl <| rq_gskip rfl rfl rfl rfl rfl rfl <| rq_gskip rfl rfl rfl rfl rfl rfl <| rq_gskip rfl rfl rfl rfl rfl rfl <| rq_v rfl rfl rfl (fun _ => ov_pick_f rfl rfl rfl) ?_
      refine rq_nil (fun n => hk27 n _ (jbf rfl (by omega)) (And.intro rfl (And.intro rfl (And.intro rfl (And.intro rfl (And.intro rfl (And.intro rfl (And.intro rfl (And.intro rfl trivial)))))))))
    ·have hO32 := hOd.drewN n28
     generalize World.drewN w17 n28 = w31 at hO32 ⊢
     show Run _ _ _ _ [(68, _), (0, _), (5, _), (7, _), (8, _), (11, _), (18, _), (19, _), (20, _)] _ _
     first | refine run_cond_dec rfl (fun c5 => ?_) (fun c5 => ?_) | refine run_cond rfl (fun c5 => ?_) (fun c5 => ?_)
     ·have hs5 := stepB_same (T := T) (a := X k) (b := X (k + 1)) (n := n) (by rw [← hu]; exact c5)
      refine run_tail 6 mixed (by kernel_rfl) ?_
      have hO34 := hO32.drew
      generalize World.drew w31 = w33 at hO34 ⊢
      refine rt_v rfl rfl rfl (ov_move rfl rfl) <| rt_v rfl rfl rfl (ov_move rfl rfl) <| rt_v rfl rfl rfl (ov_indexA1 rfl Tryz.underlying79 (by kernel_rfl) rfl rfl ⟨by omega, by omega⟩) ?_
      refine rt_v rfl rfl rfl (ov_load rfl Tryz.underlying3 rfl rfl (by exact hO34.cellL 0 rfl (off := 1) rfl)) ?_
      refine rt_v rfl rfl rfl (ov_index rfl Tryz.underlying51 (by kernel_rfl) (s := 3) rfl rfl ⟨by omega, by omega⟩ (by exact hba (by omega))) ?_
      refine rt_v rfl rfl rfl (ov_indexA1 rfl Tryz.underlying95 (by kernel_rfl) rfl rfl ⟨by omega, by omega⟩) ?_
      refine rt_nil <| rl_ow rfl (ow_storeR rfl rfl (by kernel_rfl) hO34 1 hr rfl (fun _ => (hba (by omega))) rfl ⟨by omega, by omega⟩ rfl rfl rfl rfl) ?_
      rintro _ w35 ⟨c9, rfl, hO36, hr9, hs37⟩
      have hr10 : SRow (.slice ba T.length bc) 95 3 (bzK l X (k + 1)).length (trF (bzK l X (k + 1))) c9 := by
       rw [hst, hs5, List.length_set]
       exact hr9.congr (trF_set c5.1 (by rw [← hu]; exact c5.2.1))
      refine rl_nil <| run_inBlock <| run_region <| rl_v rfl rfl rfl (ov_add rfl rfl rfl (by omega)) ?_
      refine rl_v rfl rfl rfl (ov_move rfl rfl) <| rl_nil ?_
      refine Run.use (ih10 (k + 1) (.slice ba T.length bc) _ ?_ ?_) (And.intro (by exact slot_int rfl (by first | omega)) (And.intro rfl (And.intro rfl (And.intro rfl (And.intro rfl trivial)))))
      ·first | omega | (dsimp only; omega)
      ·exact ⟨by omega, c9, hr10, hO36.tail⟩
     ·refine run_seq <| run_region <| rl_v rfl rfl rfl (ov_move rfl rfl) <| rl_v rfl rfl rfl (ov_gtr rfl rfl rfl) <| rl_nil ?_
      first | refine run_cond_dec rfl (fun c6 => ?_) (fun c6 => ?_) | refine run_cond rfl (fun c6 => ?_) (fun c6 => ?_)
      ·have hs5 := stepB_new (T := T) (a := X k) (b := X (k + 1)) (n := n) (by rw [← hu]; exact c5) c6
       refine run_region <| rl_v rfl rfl rfl (ov_move rfl rfl) <| rl_v rfl rfl rfl (ov_indexA1 rfl Tryz.underlying79 (by kernel_rfl) rfl rfl ⟨by omega, by omega⟩) ?_
       refine rl_v rfl rfl rfl (ov_load rfl Tryz.underlying3 rfl rfl (by exact hO32.cellL 0 rfl (off := 0) rfl)) ?_
       refine rl_v rfl rfl rfl (ov_indexA1 rfl Tryz.underlying79 (by kernel_rfl) rfl rfl ⟨by omega, by omega⟩) ?_
       refine rl_v rfl rfl rfl (ov_load rfl Tryz.underlying3 rfl rfl (by exact hO32.cellL 0 rfl (off := 1) rfl)) ?_
       refine rl_v rfl rfl rfl (ov_move rfl rfl) <| rl_v rfl rfl rfl (ov_buildA3 rfl Tryz.underlying95 zero_95 (by kernel_rfl) rfl rfl rfl rfl rfl rfl rfl) ?_
       refine rl_ow rfl (ow_build [_] rfl rfl rfl rfl rfl Tryz.underlying51 info_95 (by decide) hO32 rfl rfl) ?_
       rintro _ w38 ⟨b84, rfl, hO39, hs40⟩
       refine rl_ow rfl (ow_appR1 rfl rfl rfl Tryz.underlying51 info_95 rfl rfl hO39 1 hr rfl rfl rfl rfl rfl ⟨by omega, by omega⟩) ?_
       rintro _ w41 ⟨v85, c85, rfl, hO42, hr85, hs43⟩
       have hr10 : SRow v85 95 3 (bzK l X (k + 1)).length (trF (bzK l X (k + 1))) c85 := by
        rw [hst, hs5]
        exact trF_row (t := (X k, X (k + 1), n)) hr85
       refine rl_v rfl rfl rfl (ov_assign rfl rfl) <| rl_nil <| run_inBlock <| run_region <| rl_v rfl rfl rfl (ov_add rfl rfl rfl (by omega)) ?_
       refine rl_v rfl rfl rfl (ov_move rfl rfl) <| rl_nil ?_
       refine Run.use (ih10 (k + 1) (v85) _ ?_ ?_) (And.intro (by exact slot_int rfl (by first | omega)) (And.intro rfl (And.intro rfl (And.intro rfl (And.intro rfl trivial)))))
       ·first | omega | (dsimp only; omega)
       ·exact ⟨by omega, c85, hr10, hO42.tail⟩
      ·have hs5 := stepB_zero (T := T) (a := X k) (b := X (k + 1)) (n := n) (by rw [← hu]; exact c5) c6
       have hr10 : SRow (.slice ba T.length bc) 95 3 (bzK l X (k + 1)).length (trF (bzK l X (k + 1))) cb := by
        rw [hst, hs5]
        exact hr
       refine run_skip <| run_inBlock <| run_region <| rl_v rfl rfl rfl (ov_add rfl rfl rfl (by omega)) ?_
       refine rl_v rfl rfl rfl (ov_move rfl rfl) <| rl_nil ?_
       refine Run.use (ih10 (k + 1) (.slice ba T.length bc) _ ?_ ?_) (And.intro (by exact slot_int rfl (by first | omega)) (And.intro rfl (And.intro rfl (And.intro rfl (And.intro rfl trivial)))))
       ·first | omega | (dsimp only; omega)
       ·exact ⟨by omega, cb, hr10, hO32.tail⟩
  ·obtain ⟨ba, bc, rfl⟩ := Row.val hr
   have hkc : k = c - 1 := by omega
   subst hkc
   refine run_exit rfl <| run_seq <| run_region <| rl_v rfl rfl rfl (ov_move rfl rfl) <| rl_v rfl rfl rfl (ov_assign rfl rfl) <| rl_v rfl rfl rfl (ov_assign rfl rfl) <| rl_nil <| run_ret Tryz.func20 (res2 Tryz.results20 rfl rfl) ?_
   exact ⟨ba, bc, _, cb, c, X, by rw [c1'], hr, fun _ => ⟨hC, rfl⟩, fun h => absurd c1' h, hOc.sub (.cons_cons _ (List.nil_sublist _))⟩
end Go.Proofs.YtbepolognfdkeaaGreat
