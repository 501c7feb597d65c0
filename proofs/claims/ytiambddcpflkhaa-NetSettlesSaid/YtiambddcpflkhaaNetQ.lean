/- NetReceives: the walk. -/
import Derived.Test.YtiambddcpflkhaaNetP
set_option maxRecDepth 100000
namespace Go.Proofs.Ytiambddcpflkhaa
open Go.RowKit Go.Proofs

theorem ov_eqlB {P : Program} {N : Nat} {o : Oper} {F : Fr} {w : World} {T U : TypeId} {x y : Operand} {a b : Bool} (ho : o.op = .binOp .eql T x y U) (hT : P.underlying T = some .bool) (hx : Fr.ev F x = some (.bool a)) (hy : Fr.ev F y = some (.bool b)) : OpV P N o F w (.bool (decide (a = b))) := by
  intro r hr
  unfold execOp
  have h1 := run_equal_bool (P := P) w T a b hT
  have e : (a == b) = decide (a = b) := by cases a <;> cases b <;> rfl
  simp only [ho, hr.ev hx, hr.ev hy, Sem.run_bind, eqGuard]
  simp [binOp, h1, Result.andThen, e]
theorem ov_neqB {P : Program} {N : Nat} {o : Oper} {F : Fr} {w : World} {T U : TypeId} {x y : Operand} {a b : Bool} (ho : o.op = .binOp .neq T x y U) (hT : P.underlying T = some .bool) (hx : Fr.ev F x = some (.bool a)) (hy : Fr.ev F y = some (.bool b)) : OpV P N o F w (.bool (decide (a ≠ b))) := by
  intro r hr
  unfold execOp
  have h1 := run_equal_bool (P := P) w T a b hT
  have e : (!(a == b)) = decide (a ≠ b) := by cases a <;> cases b <;> rfl
  simp only [ho, hr.ev hx, hr.ev hy, Sem.run_bind, eqGuard]
  simp [binOp, h1, Result.andThen, e]

theorem ow_small {n : Nat} {D : Int → Int → Int} (_ : Valid n D) (h60 : ∀ r c, D r c ≤ 60) (i : Int) : ow n D i ≤ n * 60 := sm_bound _ (by omega) fun j _ _ => h60 i j

theorem netReceives_any (ao bo po : Option Addr) (G Gc R cb Q cp : Nat) (L : Int → Nat) (D0 : Int → Int → Int) (c0 p0 : Int → Int) (w : World) (hQ : Q ≤ cp)
    (h : ITab w.heap.size w ao G L (fun r c => .int .i64 (D0 r c))) (h2 : IAt w.heap.size w bo R (fun i => .int .i64 (c0 i))) (h3 : IAt w.heap.size w po Q (fun i => .int .i64 (p0 i))) :
    Calls Try.prog 4 #[.agg [.slice ao G Gc, .slice bo R cb].toArray, .slice po Q cp] w fun e w' => e = .returned (.bool true) ∧ Below w.heap.size w w' := by
  refine calls_of_run (F := [(0, _), (1, _)]) Try.func4 rfl Try.ntmps4 rfl rfl ?_
  have hO0 := Own.init w
  refine run_seq ?_
  refine run_region ?_
  refine rl_ow rfl (ow_box _ rfl rfl rfl rfl rfl hO0) ?_
  rintro _ w1 ⟨b2, rfl, hO2, hs3⟩
  refine rl_v rfl rfl rfl (ov_assign rfl rfl) ?_
  refine rl_nil ?_
  refine run_seq ?_
  refine run_region ?_
  refine rl_v rfl rfl rfl (ov_loadW rfl Try.underlying35 rfl (by kernel_rfl) rfl hO2 0 rfl) ?_
  refine rl_call callable_19 rfl rfl rfl rfl rfl rfl (crisis_any ao bo G Gc R cb 6 L D0 c0 _ (by omega) (by omega) (h.later hO2.below) (h2.later hO2.below)) (fun e4 w5 hp6 => ?_)
  obtain ⟨to, tx, tc, xc, n, D, cash, H, cc, rfl, hT, hrc, hOc, hv, hn6, hD60, hcash⟩ := hp6
  refine ⟨_, rfl, ?_⟩
  have hOA := hO2.join hOc
  have hIT := hT.reads (H' := []) (by simpa using hOc.tail)
  have hIC := hrc.reads hOc 0 rfl
  have h3' := h3.below hOA.below
  have hI0 := Own.init w5
  have hn1 := hv.pos
  have hc6 : ∀ i : Int, 0 ≤ i → i < n → 0 ≤ cash i ∧ cash i ≤ 1000000 := fun i _ _ => hcash i
  refine rl_ow rfl (ow_alloc _ rfl rfl rfl zero_35 rfl hI0) ?_
  rintro _ w7 ⟨b5, rfl, hO8, hs9⟩
  refine rl_ow rfl (ow_storeW rfl rfl (by kernel_rfl) hO8 0 rfl rfl (by rfl) rfl (by rfl)) ?_
  rintro _ w10 ⟨rfl, hO11, hs12⟩
  refine rl_nil ?_
  refine run_seq ?_
  refine run_region ?_
  refine rl_v rfl rfl rfl (ov_loadW rfl Try.underlying35 rfl (by kernel_rfl) rfl hO11 0 rfl) ?_
  refine rl_call callable_20 rfl rfl rfl rfl rfl rfl (give_any to tx n tc n xc _) (fun e13 w14 hp15 => ?_)
  obtain ⟨rfl, hbg⟩ := hp15
  refine ⟨_, rfl, ?_⟩
  have hO16 := hO11.past hbg
  refine rl_ow rfl (ow_alloc _ rfl rfl rfl zero_37 rfl hO16) ?_
  rintro _ w17 ⟨b6, rfl, hO18, hs19⟩
  refine rl_ow rfl (ow_storeW rfl rfl (by kernel_rfl) hO18 0 rfl rfl (by rfl) rfl (by rfl)) ?_
  rintro _ w20 ⟨rfl, hO21, hs22⟩
  have hO7 := hO21.nil_cons
  refine rl_nil ?_
  refine run_seq ?_
  refine run_region ?_
  refine rl_v rfl rfl rfl (ov_assign rfl rfl) ?_
  refine rl_nil ?_
  refine run_seq ?_
  refine run_region ?_
  refine rl_v rfl rfl rfl (ov_move rfl rfl) ?_
  refine rl_v rfl rfl rfl (ov_move rfl rfl) ?_
  refine rl_v rfl rfl rfl (ov_move rfl rfl) ?_
  refine rl_v rfl rfl rfl (ov_len rfl Try.underlying23 rfl) ?_
  refine rl_v rfl rfl rfl (ov_min rfl rfl rfl) ?_
  refine rl_v rfl rfl rfl (ov_sliceH (min Q 8) (s := 1) rfl Try.underlying23 (by kernel_rfl) rfl rfl (by first | rfl | omega) (by omega)) ?_
  refine rl_appSI rfl rfl rfl rfl Try.underlying23 info_2 rfl hO7 0 (IRow.nil 2 (fun j => .int .i64 (zeroI j))) rfl rfl rfl ((((h3'.mono hOA.size).below hO7.below).take (by omega))) ⟨by omega, by omega⟩ (fun v2 c2 w23 hO24 hr2 hs25 => ?_)
  refine rl_v rfl rfl rfl (ov_assign rfl rfl) ?_
  refine rl_nil ?_
  refine run_seq ?_
  refine run_seq ?_
  refine run_region ?_
  refine rl_v rfl rfl rfl (ov_assign rfl rfl) ?_
  refine rl_nil ?_
  refine run_block ?_
  refine Run.keep [5, 6, 7, 8] (F' := [(5, _), (6, _), (7, _), (8, _)]) rfl ?_
  refine run_loop5 (fun (k : Int) (rv : Value) (m : Nat) (g : Int → Int) (cr : Option Blk) => [(8, .int .i64 k), (7, rv)]) [5, 6] (fun (k : Int) (rv : Value) (m : Nat) (g : Int → Int) (cr : Option Blk) (w26 : World) => 0 ≤ k ∧ k ≤ 3 ∧ m ≤ 20 ∧ IRow rv 2 m (fun i => .int .i64 (g i)) cr ∧ Own w5.heap.size w5 w26 [cr, some (lch b6 37 [.slice to n tc, .slice tx n xc]), some (lch b5 35 [.slice to n tc, .slice tx n xc])]) (fun (k : Int) (rv : Value) (m : Nat) (g : Int → Int) (cr : Option Blk) => (3 - k).toNat) (0) (v2) (0 + min Q 8) (joinF zeroI ((0 : Nat) : Int) p0) (c2) ?_ (And.intro (by first | with_reducible rfl | exact slot_int rfl (by first | omega) | rfl) (And.intro rfl (And.intro rfl (And.intro rfl trivial)))) ?_
  · exact ⟨by omega, by omega, by omega, hr2, hO24⟩
  intro k rv m g cr w26 hIw26 ih27
  obtain ⟨hk0, hk1, hm, hr, hO⟩ := hIw26
  show Run _ _ _ _ [(8, _), (7, _), (5, _), (6, _)] _ _
  refine run_seq ?_
  refine run_seq ?_
  refine run_region ?_
  refine rl_v rfl rfl rfl (ov_move rfl rfl) ?_
  refine rl_v rfl rfl rfl (ov_lss rfl rfl rfl) ?_
  refine rl_nil ?_
  first | refine run_cond_dec rfl (fun h6 => ?_) (fun h6 => ?_) | refine run_cond rfl (fun h6 => ?_) (fun h6 => ?_)
  · obtain ⟨rao, rcap, rfl⟩ := hr.val
    refine run_skip ?_
    refine run_seq ?_
    refine run_block ?_
    refine run_seq ?_
    refine run_region ?_
    refine rl_v rfl rfl rfl (ov_loadW rfl Try.underlying37 rfl (by kernel_rfl) rfl hO 1 rfl) ?_
    refine rl_v rfl rfl rfl (ov_move rfl rfl) ?_
    refine rl_call callable_21 rfl rfl rfl rfl rfl rfl (received_any2 to tx rao n tc xc m rcap D cash g _ hv hc6 (by omega) (hIT.later hO.below) (hIC.later hO.below) (hr.reads hO 0 rfl)) (fun e28 w29 hp30 => ?_)
    obtain ⟨f, xo, q, xcap, c9, rfl, hcase, hr9, hO9⟩ := hp30
    refine ⟨_, rfl, ?_⟩
    have hO31 := hO.join hO9
    refine rl_v rfl rfl rfl (ov_move rfl rfl) ?_
    refine rl_v rfl rfl rfl (ov_extract rfl rfl (by rfl)) ?_
    refine rl_v rfl rfl rfl (ov_extract rfl rfl (by rfl)) ?_
    refine rl_v rfl rfl rfl (ov_assign rfl rfl) ?_
    refine rl_v rfl rfl rfl (ov_assign rfl rfl) ?_
    refine rl_nil ?_
    refine run_seq ?_
    refine run_block ?_
    refine run_seq ?_
    refine run_region ?_
    refine rl_v rfl rfl rfl (ov_move rfl rfl) ?_
    refine rl_v rfl rfl rfl (ov_len rfl Try.underlying23 rfl) ?_
    refine rl_v rfl rfl rfl (ov_fieldS rfl Try.underlying35 rfl (fo := 0) rfl (by kernel_rfl) rfl) ?_
    refine rl_v rfl rfl rfl (ov_load rfl Try.underlying22 rfl rfl (by first | exact hO31.cellI 0 rfl _ (by omega) (by omega) | exact hO31.cellL 0 rfl rfl | exact hO31.cellI 1 rfl _ (by omega) (by omega) | exact hO31.cellL 1 rfl rfl | exact hO31.cellI 2 rfl _ (by omega) (by omega) | exact hO31.cellL 2 rfl rfl | exact hO31.cellI 3 rfl _ (by omega) (by omega) | exact hO31.cellL 3 rfl rfl | exact hO31.cellI 4 rfl _ (by omega) (by omega) | exact hO31.cellL 4 rfl rfl | exact hO31.cellI 5 rfl _ (by omega) (by omega) | exact hO31.cellL 5 rfl rfl)) ?_
    refine rl_v rfl rfl rfl (ov_len rfl Try.underlying22 rfl) ?_
    refine rl_v rfl rfl rfl (ov_neq rfl rfl rfl) ?_
    refine rl_v rfl rfl rfl (ov_assign rfl rfl) ?_
    refine rl_nil ?_
    refine Run.keep [5, 6, 7, 8, 9, 10, 45] (F' := [(5, _), (6, _), (7, _), (8, _), (9, _), (10, _), (45, _)]) rfl ?_
    refine run_join1 (fun (z : Int) => []) [5, 6, 7, 8] (fun (z : Int) (w32 : World) => (0 : Int) ≤ 0 ∧ Own w5.heap.size w5 w32 [cr, some (lch b6 37 [.slice to n tc, .slice tx n xc]), some (lch b5 35 [.slice to n tc, .slice tx n xc])]) (fun hk33 => ?_) ?_
    · first | refine run_cond_dec rfl (fun h7 => ?_) (fun h7 => ?_) | refine run_cond rfl (fun h7 => ?_) (fun h7 => ?_)
      · obtain ⟨hf, hq0⟩ : f = 7 ∧ q = 0 := by
          rcases hcase with ⟨_, h1, h2⟩ | ⟨h0, _⟩ | ⟨h0, _⟩
          · exact ⟨h1, h2⟩
          · exact absurd h0 (by omega)
          · exact absurd h0 (by omega)
        clear hcase
        refine run_seq ?_
        refine run_region ?_
        refine rl_v rfl rfl rfl (ov_move rfl rfl) ?_
        refine rl_v rfl rfl rfl (ov_neq rfl rfl rfl) ?_
        refine rl_v rfl rfl rfl (ov_move rfl rfl) ?_
        first | refine rl_split_dec 54 rfl (fun hg34 => ?_) (fun hg34 => ?_) | refine rl_split 54 rfl (fun hg34 => ?_) (fun hg34 => ?_)
        · refine rl_gskip rfl rfl rfl rfl rfl rfl ?_
          refine rl_gskip rfl rfl rfl rfl rfl rfl ?_
          refine rl_gskip rfl rfl rfl rfl rfl rfl ?_
          refine rl_v rfl rfl rfl (ov_pick_t rfl rfl rfl) ?_
          refine rl_nil ?_
          refine run_cond_t rfl ?_
          exfalso; omega
        · refine rl_gv rfl rfl rfl rfl rfl (ov_move rfl rfl) ?_
          refine rl_gv rfl rfl rfl rfl rfl (ov_len rfl Try.underlying23 rfl) ?_
          refine rl_gv rfl rfl rfl rfl rfl (ov_neq rfl rfl rfl) ?_
          refine rl_v rfl rfl rfl (ov_pick_f rfl rfl rfl) ?_
          refine rl_nil ?_
          first | refine run_cond_dec rfl (fun h8 => ?_) (fun h8 => ?_) | refine run_cond rfl (fun h8 => ?_) (fun h8 => ?_)
          · exfalso; omega
          · refine run_skip ?_
            refine Run.use (hk33 (0) _ ?_) (And.intro rfl (And.intro rfl (And.intro rfl (And.intro rfl trivial))))
            exact ⟨by omega, hO31.tail⟩
      · have hmn : m = n := by clear hcase; omega
        refine run_seq ?_
        refine run_region ?_
        refine rl_v rfl rfl rfl (ov_loadW rfl Try.underlying35 rfl (by kernel_rfl) rfl hO31 3 rfl) ?_
        refine rl_v rfl rfl rfl (ov_move rfl rfl) ?_
        refine rl_call callable_22 rfl rfl rfl rfl rfl rfl (refPaid_any to rao n tc m rcap D (.slice tx n xc) g _ hv (hIT.later hO31.below) (hr.reads hO31 1 rfl)) (fun e35 w36 hp37 => ?_)
        obtain ⟨⟨bb, rfl, hbb⟩, hb2⟩ := hp37
        refine ⟨_, rfl, ?_⟩
        have hO38 := hO31.past hb2
        refine rl_v rfl rfl rfl (ov_not rfl rfl) ?_
        refine rl_v rfl rfl rfl (ov_assign rfl rfl) ?_
        refine rl_nil ?_
        first | refine run_cond_dec rfl (fun h9 => ?_) (fun h9 => ?_) | refine run_cond rfl (fun h9 => ?_) (fun h9 => ?_)
        · obtain ⟨hf, hq0⟩ : f = 1 ∧ q = 0 := by
            rcases hcase with ⟨h0, _⟩ | ⟨_, _, h1, h2⟩ | ⟨_, h0, _⟩
            · exact absurd hmn h0
            · exact ⟨h1, h2⟩
            · rw [hbb.2 ⟨hmn, h0⟩] at h9; cases h9
          clear hcase hbb
          refine run_seq ?_
          refine run_region ?_
          refine rl_v rfl rfl rfl (ov_move rfl rfl) ?_
          refine rl_v rfl rfl rfl (ov_neq rfl rfl rfl) ?_
          refine rl_v rfl rfl rfl (ov_move rfl rfl) ?_
          first | refine rl_split_dec 66 rfl (fun hg39 => ?_) (fun hg39 => ?_) | refine rl_split 66 rfl (fun hg39 => ?_) (fun hg39 => ?_)
          · refine rl_gskip rfl rfl rfl rfl rfl rfl ?_
            refine rl_gskip rfl rfl rfl rfl rfl rfl ?_
            refine rl_gskip rfl rfl rfl rfl rfl rfl ?_
            refine rl_v rfl rfl rfl (ov_pick_t rfl rfl rfl) ?_
            refine rl_nil ?_
            refine run_cond_t rfl ?_
            exfalso; omega
          · refine rl_gv rfl rfl rfl rfl rfl (ov_move rfl rfl) ?_
            refine rl_gv rfl rfl rfl rfl rfl (ov_len rfl Try.underlying23 rfl) ?_
            refine rl_gv rfl rfl rfl rfl rfl (ov_neq rfl rfl rfl) ?_
            refine rl_v rfl rfl rfl (ov_pick_f rfl rfl rfl) ?_
            refine rl_nil ?_
            first | refine run_cond_dec rfl (fun h11 => ?_) (fun h11 => ?_) | refine run_cond rfl (fun h11 => ?_) (fun h11 => ?_)
            · exfalso; omega
            · refine run_skip ?_
              refine Run.use (hk33 (0) _ ?_) (And.intro rfl (And.intro rfl (And.intro rfl (And.intro rfl trivial))))
              exact ⟨by omega, hO38.tail⟩
        · have hb1 : bb = true := by cases bb; cases h9; rfl
          have hpr := (hbb.1 hb1).2
          obtain ⟨hf, hq0⟩ : f = 0 ∧ q = n := by
            rcases hcase with ⟨h0, _⟩ | ⟨_, h0, _⟩ | ⟨_, _, h1, h2⟩
            · exact absurd hmn h0
            · exact absurd hpr h0
            · exact ⟨h1, h2⟩
          clear hcase hbb
          subst hq0
          refine run_seq ?_
          refine run_region ?_
          refine rl_v rfl rfl rfl (ov_move rfl rfl) ?_
          refine rl_v rfl rfl rfl (ov_neq rfl rfl rfl) ?_
          refine rl_v rfl rfl rfl (ov_move rfl rfl) ?_
          first | refine rl_split_dec 36 rfl (fun hg40 => ?_) (fun hg40 => ?_) | refine rl_split 36 rfl (fun hg40 => ?_) (fun hg40 => ?_)
          · refine rl_gskip rfl rfl rfl rfl rfl rfl ?_
            refine rl_gskip rfl rfl rfl rfl rfl rfl ?_
            refine rl_gskip rfl rfl rfl rfl rfl rfl ?_
            refine rl_gskip rfl rfl rfl rfl rfl rfl ?_
            refine rl_gskip rfl rfl rfl rfl rfl rfl ?_
            refine rl_gskip rfl rfl rfl rfl rfl rfl ?_
            refine rl_gskip rfl rfl rfl rfl rfl rfl ?_
            refine rl_v rfl rfl rfl (ov_pick_t rfl rfl rfl) ?_
            refine rl_nil ?_
            refine run_cond_t rfl ?_
            exfalso; omega
          · refine rl_gv rfl rfl rfl rfl rfl (ov_move rfl rfl) ?_
            refine rl_gv rfl rfl rfl rfl rfl (ov_fieldS rfl Try.underlying35 rfl (fo := 0) rfl (by kernel_rfl) rfl) ?_
            refine rl_gv rfl rfl rfl rfl rfl (ov_load rfl Try.underlying22 rfl rfl (by first | exact hO38.cellL 3 rfl rfl)) ?_
            refine rl_gv rfl rfl rfl rfl rfl (ov_move rfl rfl) ?_
            refine rl_gcall callable_24 rfl rfl rfl rfl rfl rfl rfl rfl (refReceived_any to rao q tc m rcap D g _ hv (by omega) hpr (hIT.later hO38.below) (hr.reads hO38 1 rfl)) (fun e41 w42 hp43 => ?_)
            obtain ⟨b10, rfl, hO10⟩ := hp43
            refine ⟨_, rfl, ?_⟩
            have hO44 := hO38.join hO10
            refine rl_gcall callable_23 rfl rfl rfl rfl rfl rfl rfl rfl (longs_any xo _ q xcap q q (rcv q D g) (rcv q D g) _ (by omega) (hr9.reads hO44 1 rfl) (hO44.readsI 0 rfl)) (fun e45 w46 hp47 => ?_)
            obtain ⟨⟨bl, rfl, hbl⟩, hb3⟩ := hp47
            refine ⟨_, rfl, ?_⟩
            have hO48 := hO44.past hb3
            refine rl_gv rfl rfl rfl rfl rfl (ov_not rfl rfl) ?_
            refine rl_v rfl rfl rfl (ov_pick_f rfl rfl rfl) ?_
            refine rl_nil ?_
            first | refine run_cond_dec rfl (fun h12 => ?_) (fun h12 => ?_) | refine run_cond rfl (fun h12 => ?_) (fun h12 => ?_)
            · exfalso; rw [hbl.2 ⟨rfl, fun _ _ _ => rfl⟩] at h12; cases h12
            · refine run_skip ?_
              refine Run.use (hk33 (0) _ ?_) (And.intro rfl (And.intro rfl (And.intro rfl (And.intro rfl trivial))))
              exact ⟨by omega, hO48.tail.tail⟩
    · intro z w32 hJw32
      obtain ⟨hz, hO3⟩ := hJw32
      show Run _ _ _ _ [(5, _), (6, _), (7, _), (8, _)] _ _
      clear hcase
      refine run_inBlock ?_
      refine run_seq ?_
      refine run_seq ?_
      refine run_held (fun w' => Own w5.heap.size w5 w' ([cr, some (lch b6 37 [.slice to n tc, .slice tx n xc]), some (lch b5 35 [.slice to n tc, .slice tx n xc])])) mixed ?_
      have hO50 := hO3.drew
      generalize World.drew w32 = w49 at hO50 ⊢
      have hS51 : Own w5.heap.size w5 w49 ([cr, some (lch b6 37 [.slice to n tc, .slice tx n xc]), some (lch b5 35 [.slice to n tc, .slice tx n xc])]) := by exact hO50
      refine rh_v 0 rfl (by kernel_rfl) rfl rfl rfl hS51 (fun _ hS => ov_loadW rfl Try.underlying37 rfl (by kernel_rfl) rfl hS 1 rfl) ?_
      refine rh_v 1 rfl (by kernel_rfl) rfl rfl rfl hS51 (fun _ hS => ov_move rfl rfl) ?_
      refine rh_v 3 rfl (by kernel_rfl) rfl rfl rfl hS51 (fun _ hS => ov_loadW rfl Try.underlying35 rfl (by kernel_rfl) rfl hS 2 rfl) ?_
      refine rh_v 4 rfl (by kernel_rfl) rfl rfl rfl hS51 (fun _ hS => ov_move rfl rfl) ?_
      refine rh_any1 2 (by kernel_rfl) ?_
      refine rc_op rfl rfl (ow_call2 callable_25 rfl rfl rfl rfl rfl (isClearing_any to tx rao n tc xc m rcap D cash g _ hv hc6 (by omega) (hIT.later hO50.below) (hIC.later hO50.below) (hr.reads hO50 0 rfl)) (by intro e w' hp; obtain ⟨⟨x1, rfl, hx1⟩, hb4⟩ := hp; exact ⟨_, rfl⟩)) ?_
      rintro _ w54 ⟨_, v52, he55, rfl, hp53⟩
      obtain ⟨⟨x1, rfl, hx1⟩, hb4⟩ := hp53
      injection he55 with he55; subst he55
      have hO56 := hO50.past hb4
      have hS57 : Own w5.heap.size w5 w54 ([cr, some (lch b6 37 [.slice to n tc, .slice tx n xc]), some (lch b5 35 [.slice to n tc, .slice tx n xc])]) := by exact hO56
      refine ⟨hS57, ?_⟩
      refine rh_any1 5 (by kernel_rfl) ?_
      refine rc_op rfl rfl (ow_call2 callable_26 rfl rfl rfl rfl rfl (refClearing_any to tx rao n tc xc m rcap D cash g _ hv hc6 (by omega) (hIT.later hO56.below) (hIC.later hO56.below) (hr.reads hO56 0 rfl)) (by intro e w' hp; obtain ⟨⟨x2, rfl, hx2⟩, hb5⟩ := hp; exact ⟨_, rfl⟩)) ?_
      rintro _ w60 ⟨_, v58, he61, rfl, hp59⟩
      obtain ⟨⟨x2, rfl, hx2⟩, hb5⟩ := hp59
      injection he61 with he61; subst he61
      have hO62 := hO56.past hb5
      have hS63 : Own w5.heap.size w5 w60 ([cr, some (lch b6 37 [.slice to n tc, .slice tx n xc]), some (lch b5 35 [.slice to n tc, .slice tx n xc])]) := by exact hO62
      refine ⟨hS63, ?_⟩
      refine rh_v 6 rfl (by kernel_rfl) rfl rfl rfl hS63 (fun _ hS => ov_neqB rfl Try.underlying4 rfl rfl) ?_
      refine rh_done (by kernel_rfl) ?_
      first | refine run_cond_dec rfl (fun h13 => ?_) (fun h13 => ?_) | refine run_cond rfl (fun h13 => ?_) (fun h13 => ?_)
      · exfalso; exact h13 (Bool.eq_iff_iff.2 (hx1.trans hx2.symm))
      · refine run_skip ?_
        refine run_seq ?_
        refine run_region ?_
        refine rl_v rfl rfl rfl (ov_move rfl rfl) ?_
        refine rl_v rfl rfl rfl (ov_eql rfl rfl rfl) ?_
        refine rl_nil ?_
        first | refine run_cond_dec rfl (fun h14 => ?_) (fun h14 => ?_) | refine run_cond rfl (fun h14 => ?_) (fun h14 => ?_)
        · refine run_seq ?_
          refine run_region ?_
          refine rl_v rfl rfl rfl (ov_fieldS rfl Try.underlying35 rfl (fo := 0) rfl (by kernel_rfl) rfl) ?_
          refine rl_v rfl rfl rfl (ov_load rfl Try.underlying22 rfl rfl (by first | exact hO62.cellI 0 rfl _ (by omega) (by omega) | exact hO62.cellL 0 rfl rfl | exact hO62.cellI 1 rfl _ (by omega) (by omega) | exact hO62.cellL 1 rfl rfl | exact hO62.cellI 2 rfl _ (by omega) (by omega) | exact hO62.cellL 2 rfl rfl | exact hO62.cellI 3 rfl _ (by omega) (by omega) | exact hO62.cellL 3 rfl rfl | exact hO62.cellI 4 rfl _ (by omega) (by omega) | exact hO62.cellL 4 rfl rfl | exact hO62.cellI 5 rfl _ (by omega) (by omega) | exact hO62.cellL 5 rfl rfl)) ?_
          refine rl_call callable_27 rfl rfl rfl rfl rfl rfl (refOwes_any to n tc D _ hv (hIT.later hO62.below)) (fun e64 w65 hp66 => ?_)
          obtain ⟨b11, rfl, hO11⟩ := hp66
          refine ⟨_, rfl, ?_⟩
          have hO67 := hO62.join hO11
          refine rl_v rfl rfl rfl (ov_assign rfl rfl) ?_
          refine rl_nil ?_
          refine run_seq ?_
          refine run_block ?_
          refine Run.keep [5, 6, 7, 8, 11] (F' := [(5, _), (6, _), (7, _), (8, _), (11, _)]) rfl ?_
          refine run_loop4 (fun (rv : Value) (m : Nat) (g : Int → Int) (cr : Option Blk) => [(7, rv)]) [5, 6, 8, 11] (fun (rv : Value) (m : Nat) (g : Int → Int) (cr : Option Blk) (w68 : World) => m ≤ 20 ∧ IRow rv 2 m (fun i => .int .i64 (g i)) cr ∧ Own w5.heap.size w5 w68 [some (vch b11 2 n (fun i => .int .i64 (ow n D i))), cr, some (lch b6 37 [.slice to n tc, .slice tx n xc]), some (lch b5 35 [.slice to n tc, .slice tx n xc])]) (fun (rv : Value) (m : Nat) (g : Int → Int) (cr : Option Blk) => n - m) (.slice rao m rcap) (m) (g) (cr) ?_ (And.intro rfl (And.intro rfl (And.intro rfl (And.intro rfl (And.intro rfl trivial))))) ?_
          · exact ⟨by omega, hr, hO67⟩
          intro rv m g cr w68 hIw68 ih69
          obtain ⟨hm, hr, hO⟩ := hIw68
          show Run _ _ _ _ [(7, _), (5, _), (6, _), (8, _), (11, _)] _ _
          obtain ⟨rao, rcap, rfl⟩ := hr.val
          refine run_seq ?_
          refine run_seq ?_
          refine run_region ?_
          refine rl_v rfl rfl rfl (ov_move rfl rfl) ?_
          refine rl_v rfl rfl rfl (ov_len rfl Try.underlying23 rfl) ?_
          refine rl_v rfl rfl rfl (ov_move rfl rfl) ?_
          refine rl_v rfl rfl rfl (ov_len rfl Try.underlying23 rfl) ?_
          refine rl_v rfl rfl rfl (ov_lss rfl rfl rfl) ?_
          refine rl_nil ?_
          first | refine run_cond_dec rfl (fun h15 => ?_) (fun h15 => ?_) | refine run_cond rfl (fun h15 => ?_) (fun h15 => ?_)
          · refine run_skip ?_
            refine run_block ?_
            refine run_region ?_
            refine rl_v rfl rfl rfl (ov_move rfl rfl) ?_
            refine rl_appI rfl rfl rfl rfl rfl rfl rfl rfl Try.underlying23 info_2 rfl hO 1 hr rfl rfl rfl ⟨by omega, by omega⟩ (fun v5 c5 w70 hO71 hr5 hs72 => ?_)
            refine rl_v rfl rfl rfl (ov_assign rfl rfl) ?_
            refine rl_nil ?_
            refine run_inBlock ?_
            refine Run.use (ih69 (v5) (m + 1) (upd g m 0) (c5) _ ?_ ?_) (And.intro rfl (And.intro rfl (And.intro rfl (And.intro rfl (And.intro rfl trivial)))))
            · first | omega | (dsimp only; omega)
            · exact ⟨by omega, hr5, hO71⟩
          · have hcap := hr.cap
            have hr' := hr.cut (show n ≤ m by omega)
            obtain ⟨rb, G', rfl, hq1, hq2, rfl, hG⟩ := hr'.asV hn1
            refine run_exit rfl ?_
            refine run_seq ?_
            refine run_region ?_
            refine rl_v rfl rfl rfl (ov_move rfl rfl) ?_
            refine rl_v rfl rfl rfl (ov_move rfl rfl) ?_
            refine rl_v rfl rfl rfl (ov_len rfl Try.underlying23 rfl) ?_
            refine rl_v rfl rfl rfl (ov_sliceH (n) (s := 1) rfl Try.underlying23 (by kernel_rfl) rfl rfl (by first | rfl | omega) (by omega)) ?_
            refine rl_v rfl rfl rfl (ov_assign rfl rfl) ?_
            refine rl_nil ?_
            refine run_seq ?_
            refine run_region ?_
            refine rl_v rfl rfl rfl (ov_assign rfl rfl) ?_
            refine rl_nil ?_
            refine run_block ?_
            refine Run.keep [5, 6, 7, 8, 11, 12] (F' := [(5, _), (6, _), (7, _), (8, _), (11, _), (12, _)]) rfl ?_
            refine run_loop3 (fun (i : Int) (G2 : Int → Value) (g2 : Int → Int) => [(12, .int .i64 i)]) [5, 6, 7, 8, 11] (fun (i : Int) (G2 : Int → Value) (g2 : Int → Int) (w73 : World) => 0 ≤ i ∧ i ≤ n ∧ (∀ j : Int, 0 ≤ j → j < n → G2 j = .int .i64 (g2 j)) ∧ Own w5.heap.size w5 w73 [some (vch b11 2 n (fun i => .int .i64 (ow n D i))), some (vch rb 2 rcap G2), some (lch b6 37 [.slice to n tc, .slice tx n xc]), some (lch b5 35 [.slice to n tc, .slice tx n xc])]) (fun (i : Int) (G2 : Int → Value) (g2 : Int → Int) => ((n : Int) - i).toNat) (0) (G') (g) ?_ (And.intro (by first | with_reducible rfl | exact slot_int rfl (by first | omega) | rfl) (And.intro rfl (And.intro rfl (And.intro rfl (And.intro rfl (And.intro rfl trivial)))))) ?_
            · exact ⟨by omega, by omega, hG, hO⟩
            intro i G2 g2 w73 hIw73 ih74
            obtain ⟨hi0, hi1, hG2, hO⟩ := hIw73
            show Run _ _ _ _ [(12, _), (5, _), (6, _), (7, _), (8, _), (11, _)] _ _
            refine run_seq ?_
            refine run_seq ?_
            refine run_region ?_
            refine rl_v rfl rfl rfl (ov_move rfl rfl) ?_
            refine rl_v rfl rfl rfl (ov_move rfl rfl) ?_
            refine rl_v rfl rfl rfl (ov_len rfl Try.underlying23 rfl) ?_
            refine rl_v rfl rfl rfl (ov_lss rfl rfl rfl) ?_
            refine rl_nil ?_
            first | refine run_cond_dec rfl (fun h16 => ?_) (fun h16 => ?_) | refine run_cond rfl (fun h16 => ?_) (fun h16 => ?_)
            · have hor := ow_rng hv i
              have hos := ow_small hv hD60 i
              refine run_skip ?_
              refine run_seq ?_
              refine run_block ?_
              refine run_tail 16 mixed (by kernel_rfl) ?_
              have hO76 := hO.drew
              generalize World.drew w73 = w75 at hO76 ⊢
              refine rt_v rfl rfl rfl (ov_move rfl rfl) ?_
              refine rt_v rfl rfl rfl (ov_move rfl rfl) ?_
              refine rt_v rfl rfl rfl (ov_move rfl rfl) ?_
              refine rt_v rfl rfl rfl (ov_move rfl rfl) ?_
              refine rt_v rfl rfl rfl (ov_index1 rfl Try.underlying23 (by kernel_rfl) rfl rfl ⟨by omega, by omega⟩ rfl) ?_
              refine rt_v rfl rfl rfl (ov_load rfl Try.underlying2 rfl rfl (by first | exact (hO76.cellI 1 rfl i hi0 (by omega)).trans (congrArg some (hG2 i hi0 h16)))) ?_
              refine rt_v rfl rfl rfl (ov_conv rfl Try.underlying2 Try.underlying46 rfl) ?_
              refine rt_v rfl rfl rfl (ov_move rfl rfl) ?_
              refine rt_v rfl rfl rfl (ov_move rfl rfl) ?_
              refine rt_v rfl rfl rfl (ov_index1 rfl Try.underlying23 (by kernel_rfl) rfl rfl ⟨by omega, by omega⟩ rfl) ?_
              refine rt_v rfl rfl rfl (ov_load rfl Try.underlying2 rfl rfl (by first | exact hO76.cellI 0 rfl i hi0 (by omega))) ?_
              refine rt_v rfl rfl rfl (ov_add rfl rfl rfl (by omega)) ?_
              refine rt_v rfl rfl rfl (ov_conv rfl Try.underlying2 Try.underlying46 rfl) ?_
              refine rt_v rfl rfl rfl (ov_rem rfl rfl rfl (wrap_u64_nonneg _) (wrap_u64_pos _ hor.1 (by omega))) ?_
              refine rt_v rfl rfl rfl (ov_conv rfl Try.underlying46 Try.underlying2 rfl) ?_
              refine rt_v rfl rfl rfl (ov_index1 rfl Try.underlying23 (by kernel_rfl) rfl rfl ⟨by omega, by omega⟩ rfl) ?_
              refine rt_nil ?_
              refine rl_ow rfl (ow_store rfl rfl (by kernel_rfl) hO76 1 rfl rfl ⟨by omega, by omega⟩ rfl rfl) ?_
              rintro _ w77 ⟨rfl, hO78, hs79⟩
              refine rl_nil ?_
              refine run_inBlock ?_
              refine run_region ?_
              refine rl_v rfl rfl rfl (ov_move rfl rfl) ?_
              refine rl_v rfl rfl rfl (ov_add rfl rfl rfl (by omega)) ?_
              refine rl_v rfl rfl rfl (ov_assign rfl rfl) ?_
              refine rl_nil ?_
              refine Run.use (ih74 (i + 1) (upd G2 i (.int .i64 (IntKind.i64.wrap (IntKind.u64.wrap (g2 i) % IntKind.u64.wrap (ow n D i + 1))))) (upd g2 i (IntKind.i64.wrap (IntKind.u64.wrap (g2 i) % IntKind.u64.wrap (ow n D i + 1)))) _ ?_ ?_) (And.intro (by first | with_reducible rfl | exact slot_int rfl (by first | omega) | rfl) (And.intro rfl (And.intro rfl (And.intro rfl (And.intro rfl (And.intro rfl trivial))))))
              · first | omega | (dsimp only; omega)
              · exact ⟨by omega, by omega, fun j j0 j1 => by unfold upd; split; rfl; exact hG2 j j0 j1, hO78⟩
            · refine run_exit rfl ?_
              refine run_inBlock ?_
              refine run_region ?_
              refine rl_v rfl rfl rfl (ov_move rfl rfl) ?_
              refine rl_v rfl rfl rfl (ov_add rfl rfl rfl (by omega)) ?_
              refine rl_v rfl rfl rfl (ov_assign rfl rfl) ?_
              refine rl_nil ?_
              refine Run.use (ih27 (k + 1) (.slice (some ⟨rb, 0, none⟩) n rcap) (n) (g2) (some (vch rb 2 rcap G2)) _ ?_ ?_) (And.intro (by first | with_reducible rfl | exact slot_int rfl (by first | omega) | rfl) (And.intro rfl (And.intro rfl (And.intro rfl trivial))))
              · first | omega | (dsimp only; omega)
              · exact ⟨by omega, by omega, by omega, IRow.ofV hq1 hq2 hG2, hO.tail⟩
        · refine run_held (fun w' => Own w5.heap.size w5 w' ([cr, some (lch b6 37 [.slice to n tc, .slice tx n xc]), some (lch b5 35 [.slice to n tc, .slice tx n xc])])) mixed ?_
          have hO81 := hO62.drew
          generalize World.drew w60 = w80 at hO81 ⊢
          have hS82 : Own w5.heap.size w5 w80 ([cr, some (lch b6 37 [.slice to n tc, .slice tx n xc]), some (lch b5 35 [.slice to n tc, .slice tx n xc])]) := by first | exact hO81 | exact hO81.tail | exact hO81.tail.tail
          refine rh_v 0 rfl (by kernel_rfl) rfl rfl rfl hS82 (fun _ hS => ov_loadW rfl Try.underlying35 rfl (by kernel_rfl) rfl hS 2 rfl) ?_
          refine rh_v 1 rfl (by kernel_rfl) rfl rfl rfl hS82 (fun _ hS => ov_fieldS rfl Try.underlying35 rfl (fo := 0) rfl (by kernel_rfl) rfl) ?_
          refine rh_v 2 rfl (by kernel_rfl) rfl rfl rfl hS82 (fun _ hS => ov_load rfl Try.underlying22 rfl rfl (by first | exact hS.cellL 2 rfl rfl)) ?_
          refine rh_v 3 rfl (by kernel_rfl) rfl rfl rfl hS82 (fun _ hS => ov_len rfl Try.underlying22 rfl) ?_
          refine rh_any1 4 (by kernel_rfl) ?_
          refine rc_op rfl rfl (ow_call2 callable_29 rfl rfl rfl rfl rfl (refAll_any n _ (by omega)) (by intro e w' hp; obtain ⟨bA, rfl, hOa⟩ := hp; exact ⟨_, rfl⟩)) ?_
          rintro _ w85 ⟨_, v83, he86, rfl, hp84⟩
          obtain ⟨bA, rfl, hOa⟩ := hp84
          injection he86 with he86; subst he86
          have hO87 := hO81.join hOa
          have hS88 : Own w5.heap.size w5 w85 ([cr, some (lch b6 37 [.slice to n tc, .slice tx n xc]), some (lch b5 35 [.slice to n tc, .slice tx n xc])]) := by first | exact hO87 | exact hO87.tail | exact hO87.tail.tail
          refine ⟨hS88, ?_⟩
          refine rh_any1 5 (by kernel_rfl) ?_
          refine rc_op rfl rfl (ow_call2 callable_28 rfl rfl rfl rfl rfl (refGreatest_any to tx _ n tc xc n D cash (fun _ => true) _ hv (fun i i0 i1 => by have := hcash i; omega) (hIT.later hO87.below) (hIC.later hO87.below) (hO87.readsI 0 rfl)) (by intro e w' hp; obtain ⟨pp, vp, cp', rfl, _, hrp, hOp⟩ := hp; exact ⟨_, rfl⟩)) ?_
          rintro _ w91 ⟨_, v89, he92, rfl, hp90⟩
          obtain ⟨pp, vp, cp', rfl, _, hrp, hOp⟩ := hp90
          injection he92 with he92; subst he92
          have hO93 := hO87.join hOp
          have hS94 : Own w5.heap.size w5 w91 ([cr, some (lch b6 37 [.slice to n tc, .slice tx n xc]), some (lch b5 35 [.slice to n tc, .slice tx n xc])]) := by first | exact hO93 | exact hO93.tail | exact hO93.tail.tail
          refine ⟨hS94, ?_⟩
          refine rh_v 6 rfl (by kernel_rfl) rfl rfl rfl hS94 (fun _ hS => ov_assign rfl rfl) ?_
          refine rh_done (by kernel_rfl) ?_
          refine run_inBlock ?_
          refine run_region ?_
          refine rl_v rfl rfl rfl (ov_move rfl rfl) ?_
          refine rl_v rfl rfl rfl (ov_add rfl rfl rfl (by omega)) ?_
          refine rl_v rfl rfl rfl (ov_assign rfl rfl) ?_
          refine rl_nil ?_
          refine Run.use (ih27 (k + 1) (vp) (n) (pp) (cp') _ ?_ ?_) (And.intro (by first | with_reducible rfl | exact slot_int rfl (by first | omega) | rfl) (And.intro rfl (And.intro rfl (And.intro rfl trivial))))
          · first | omega | (dsimp only; omega)
          · exact ⟨by omega, by omega, by omega, hrp, hO93.sub (.cons_cons _ (.cons _ (.cons _ (.refl _))))⟩
  · refine run_exit rfl ?_
    refine run_seq ?_
    refine run_region ?_
    refine rl_call callable_18 rfl rfl rfl rfl rfl rfl (awake_any _) (fun e95 w96 hp97 => ?_)
    obtain ⟨rfl, hb⟩ := hp97
    refine ⟨_, rfl, ?_⟩
    have hO98 := hO.past hb
    refine rl_v rfl rfl rfl (ov_assign rfl rfl) ?_
    refine rl_nil ?_
    refine run_ret Try.func4 (res1 Try.results4 rfl) ?_
    exact ⟨rfl, (hOA.join hO98).below⟩
end Go.Proofs.Ytiambddcpflkhaa
