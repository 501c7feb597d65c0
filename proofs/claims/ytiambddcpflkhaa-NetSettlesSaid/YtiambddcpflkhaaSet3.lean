/- Settling: the reference's Settle; NetSettles: the walk. -/
import Derived.Test.YtiambddcpflkhaaSet2
import Derived.Laws.StructEq
set_option maxRecDepth 100000
namespace Go.Proofs.Ytiambddcpflkhaa
open Go.RowKit Go.Proofs

theorem eqF_same {P : Program} {w : World} {d : Nat} {xs : Array Value} : ∀ (fs : List Field), (∀ f ∈ fs, ∃ (kk : IntKind) (m : Int), P.underlying f.type = some (.int kk) ∧ xs[f.offset]? = some (.int kk m)) → (Op.eqFields (d + 1) xs xs fs).run P w = .ok true w
  | [], _ => rfl
  | f :: fs, h => by
    obtain ⟨kk, m, hu, hx⟩ := h f (List.mem_cons_self ..)
    have hp : (part f.type xs f.offset).run P w = .ok (.int kk m) w := by simp [part, isAgg, run_underlying hu, hx]
    have he : (Op.equalIn (d + 1) f.type (.int kk m) (.int kk m)).run P w = .ok true w := by rw [run_equalIn_int w d f.type kk kk m m hu]; simp
    have ih := eqF_same (w := w) (d := d) fs fun g hg => h g (List.mem_cons_of_mem _ hg)
    unfold Op.eqFields
    split
    · simp [hp, he, ih, Result.andThen]
    · exact ih

theorem ov_neqT {N : Nat} {o : Oper} {F : Fr} {w : World} {x y : Operand} {U : TypeId} {a b c : Int} (ho : o.op = .binOp .neq 85 x y U) (hx : Fr.ev F x = some (.agg #[.int .i64 a, .int .i64 b, .int .i64 c])) (hy : Fr.ev F y = some (.agg #[.int .i64 a, .int .i64 b, .int .i64 c])) : OpV Try.prog N o F w (.bool false) := by
  intro r hr
  have hfo : Try.prog.underlying 85 = some (.struct (Try.prog.fieldsOf 85)) := by unfold Program.fieldsOf; rw [Try.underlying85]
  have h1 : (Op.equalIn 10000 85 (.agg #[.int .i64 a, .int .i64 b, .int .i64 c]) (.agg #[.int .i64 a, .int .i64 b, .int .i64 c])).run Try.prog w = .ok true w := by
    rw [run_equalIn_struct w 9999 85 _ _ hfo (by kernel_rfl)]
    refine eqF_same (d := 9998) _ fun f hf => ?_
    unfold Program.fieldsOf at hf
    rw [Try.underlying85] at hf
    simp only [List.mem_cons, List.not_mem_nil, or_false] at hf
    rcases hf with rfl | rfl | rfl
    · exact ⟨.i64, a, Try.underlying3, rfl⟩
    · exact ⟨.i64, b, Try.underlying3, rfl⟩
    · exact ⟨.i64, c, Try.underlying2, rfl⟩
  unfold execOp
  have hg := run_eqGuard_agg (P := Try.prog) w .neq 85 x y #[.int .i64 a, .int .i64 b, .int .i64 c] #[.int .i64 a, .int .i64 b, .int .i64 c] (by kernel_rfl)
  simp only [ho, hr.ev hx, hr.ev hy, Sem.run_bind, hg, Result.andThen_ok, run_neq_struct, h1]
  simp

/-- Who pays, among those below i. -/
def payU (g : Int → Int) (i a : Int) : Prop := a = -1 ∧ (∀ j : Int, 0 ≤ j → j < i → 0 ≤ g j) ∨ (0 ≤ a ∧ a < i) ∧ g a < 0 ∧ ∀ j : Int, 0 ≤ j → j < i → g j < 0 → ¬ (g j < g a ∨ g j = g a ∧ j < a)
theorem payU.yes {g : Int → Int} {i a : Int} (h : payU g i a) (i0 : 0 ≤ i) (hc : g i < 0 ∧ (a < 0 ∨ g i < g a)) : payU g (i + 1) i := by
  refine .inr ⟨⟨i0, by omega⟩, hc.1, fun j j0 j1 hj => ?_⟩
  by_cases e : j = i
  · rw [e]; omega
  · rcases h with ⟨h1, h2⟩ | ⟨h1, h2, h3⟩
    · have := h2 j j0 (by omega); omega
    · have h4 := h3 j j0 (by omega) hj
      have h5 := hc.2
      omega
theorem payU.no {g : Int → Int} {i a : Int} (h : payU g i a) (hc : ¬ (g i < 0 ∧ (a < 0 ∨ g i < g a))) : payU g (i + 1) a := by
  rcases h with ⟨h1, h2⟩ | ⟨h1, h2, h3⟩
  · refine .inl ⟨h1, fun j j0 j1 => ?_⟩
    by_cases e : j = i
    · rw [e]; omega
    · exact h2 j j0 (by omega)
  · refine .inr ⟨by omega, h2, fun j j0 j1 hj => ?_⟩
    by_cases e : j = i
    · rw [e] at hj ⊢; omega
    · exact h3 j j0 (by omega) hj
def getU (g : Int → Int) (i a : Int) : Prop := a = -1 ∧ (∀ j : Int, 0 ≤ j → j < i → g j ≤ 0) ∨ (0 ≤ a ∧ a < i) ∧ 0 < g a ∧ ∀ j : Int, 0 ≤ j → j < i → 0 < g j → ¬ (g a < g j ∨ g j = g a ∧ j < a)
theorem getU.yes {g : Int → Int} {i a : Int} (h : getU g i a) (i0 : 0 ≤ i) (hc : 0 < g i ∧ (a < 0 ∨ g a < g i)) : getU g (i + 1) i := by
  refine .inr ⟨⟨i0, by omega⟩, hc.1, fun j j0 j1 hj => ?_⟩
  by_cases e : j = i
  · rw [e]; omega
  · rcases h with ⟨h1, h2⟩ | ⟨h1, h2, h3⟩
    · have := h2 j j0 (by omega); omega
    · have h4 := h3 j j0 (by omega) hj
      have h5 := hc.2
      omega
theorem getU.no {g : Int → Int} {i a : Int} (h : getU g i a) (hc : ¬ (0 < g i ∧ (a < 0 ∨ g a < g i))) : getU g (i + 1) a := by
  rcases h with ⟨h1, h2⟩ | ⟨h1, h2, h3⟩
  · refine .inl ⟨h1, fun j j0 j1 => ?_⟩
    by_cases e : j = i
    · rw [e]; omega
    · exact h2 j j0 (by omega)
  · refine .inr ⟨by omega, h2, fun j j0 j1 hj => ?_⟩
    by_cases e : j = i
    · rw [e] at hj ⊢; omega
    · exact h3 j j0 (by omega) hj
theorem payU.rng {g : Int → Int} {i a : Int} (h : payU g i a) : a = -1 ∨ 0 ≤ a ∧ a < i := by rcases h with ⟨h1, _⟩ | ⟨h1, _⟩; exact .inl h1; exact .inr h1
theorem getU.rng {g : Int → Int} {i a : Int} (h : getU g i a) : a = -1 ∨ 0 ≤ a ∧ a < i := by rcases h with ⟨h1, _⟩ | ⟨h1, _⟩; exact .inl h1; exact .inr h1

theorem refSettle_any (ao : Option Addr) (n c : Nat) (D : Int → Int → Int) (w : World) (hv : Valid n D) (h : ITab w.heap.size w ao n (fun _ => n) (fun r c => .int .i64 (D r c))) :
    Calls Try.prog 54 #[.slice ao n c] w fun e w' => ∃ (K : Nat) (v : Value) (co : Option Blk), e = .returned v ∧ Settled n (ps n D) K ∧ K ≤ n ∧ SRow v 85 3 K (trG n (ps n D)) co ∧ Own w.heap.size w w' [co] := by
  have hle := hv.le
  have hpos := hv.pos
  refine calls_of_run (F := [(0, _)]) Try.func54 rfl Try.ntmps54 rfl rfl ?_
  have hO0 := Own.init w
  refine run_seq ?_
  refine run_region ?_
  refine rl_v rfl rfl rfl (ov_assign rfl rfl) ?_
  refine rl_nil ?_
  refine run_seq ?_
  refine run_region ?_
  refine rl_v rfl rfl rfl (ov_move rfl rfl) ?_
  refine rl_call callable_47 rfl rfl rfl rfl rfl rfl (refPositions_any ao n c D _ hle hv.all (h.later hO0.below)) (fun e1 w2 hp3 => ?_)
  obtain ⟨b3, rfl, hOp⟩ := hp3
  refine ⟨_, rfl, ?_⟩
  have hO4 := hO0.join hOp
  have hO9 := hO4.nil_cons
  refine rl_v rfl rfl rfl (ov_assign rfl rfl) ?_
  refine rl_nil ?_
  refine run_seq ?_
  refine run_region ?_
  refine rl_v rfl rfl rfl (ov_assign rfl rfl) ?_
  refine rl_nil ?_
  refine run_block ?_
  refine Run.keep [3, 4] (F' := [(3, _), (4, _)]) rfl ?_
  refine run_loop4 (fun (m : Nat) (vo : Value) (co : Option Blk) (g : Int → Int) => [(4, vo)]) [3] (fun (m : Nat) (vo : Value) (co : Option Blk) (g : Int → Int) (w5 : World) => m ≤ n ∧ (∀ i, -32000000 ≤ stP n (ps n D) m i ∧ stP n (ps n D) m i ≤ 32000000) ∧ (∀ j, j < m → ∃ i : Int, 0 ≤ i ∧ i < n ∧ stP n (ps n D) j i < 0) ∧ SRow vo 85 3 m (trG n (ps n D)) co ∧ (∀ i : Int, 0 ≤ i → i < n → g i = stP n (ps n D) m i) ∧ Own w.heap.size w w5 [co, some (vch b3 2 n (fun i => .int .i64 (g i)))]) (fun (m : Nat) (vo : Value) (co : Option Blk) (g : Int → Int) => n - m) (0) (.slice none 0 0) (none) (ps n D) ?_ (And.intro rfl (And.intro rfl trivial)) ?_
  · exact ⟨by omega, ps_rng hv, fun j hj => by omega, SRow.nil _ _ _, fun i _ _ => rfl, hO9⟩
  intro m vo co g w5 hIw5 ih6
  obtain ⟨hm, hrg, hsome, hro, hg, hO⟩ := hIw5
  show Run _ _ _ _ [(4, _), (3, _)] _ _
  refine run_block ?_
  refine run_seq ?_
  refine run_region ?_
  refine rl_v rfl rfl rfl (ov_assign rfl rfl) ?_
  refine rl_v rfl rfl rfl (ov_assign rfl rfl) ?_
  refine rl_nil ?_
  refine run_seq ?_
  refine run_seq ?_
  refine run_region ?_
  refine rl_v rfl rfl rfl (ov_assign rfl rfl) ?_
  refine rl_nil ?_
  refine run_block ?_
  refine Run.keep [3, 4, 5, 6, 7] (F' := [(3, _), (4, _), (5, _), (6, _), (7, _)]) rfl ?_
  refine run_loop3 (fun (i : Int) (pa : Int) (ge : Int) => [(7, .int .i64 i), (5, .int .i64 pa), (6, .int .i64 ge)]) [3, 4] (fun (i : Int) (pa : Int) (ge : Int) (w7 : World) => 0 ≤ i ∧ i ≤ n ∧ payU g i pa ∧ getU g i ge ∧ Own w.heap.size w w7 [co, some (vch b3 2 n (fun i => .int .i64 (g i)))]) (fun (i : Int) (pa : Int) (ge : Int) => ((n : Int) - i).toNat) (0) (-1) (-1) ?_ (And.intro (by first | with_reducible rfl | exact slot_int rfl (by first | omega) | rfl) (And.intro (by first | with_reducible rfl | exact slot_int rfl (by first | omega) | rfl) (And.intro (by first | with_reducible rfl | exact slot_int rfl (by first | omega) | rfl) (And.intro rfl (And.intro rfl trivial))))) ?_
  · exact ⟨by omega, by omega, .inl ⟨rfl, fun j j0 j1 => by omega⟩, .inl ⟨rfl, fun j j0 j1 => by omega⟩, hO⟩
  intro i pa ge w7 hIw7 ih8
  obtain ⟨hi0, hi1, hpa, hge, hO2⟩ := hIw7
  show Run _ _ _ _ [(7, _), (5, _), (6, _), (3, _), (4, _)] _ _
  refine run_seq ?_
  refine run_seq ?_
  refine run_region ?_
  refine rl_v rfl rfl rfl (ov_move rfl rfl) ?_
  refine rl_v rfl rfl rfl (ov_move rfl rfl) ?_
  refine rl_v rfl rfl rfl (ov_len rfl Try.underlying23 rfl) ?_
  refine rl_v rfl rfl rfl (ov_lss rfl rfl rfl) ?_
  refine rl_nil ?_
  first | refine run_cond_dec rfl (fun h2 => ?_) (fun h2 => ?_) | refine run_cond rfl (fun h2 => ?_) (fun h2 => ?_)
  · have hpr := hpa.rng
    have hgr := hge.rng
    refine run_skip ?_
    refine run_seq ?_
    refine run_block ?_
    refine run_seq ?_
    refine run_seq ?_
    refine run_quiet_join mixed (by kernel_rfl) 36 (.bool (decide (g i < 0 ∧ (pa < 0 ∨ g i < g pa)))) [3, 4, 5, 6, 7] (fun hk9 => ?_) (fun n10 => ?_)
    · refine rq_v rfl rfl rfl (fun _ => ov_move rfl rfl) ?_
      refine rq_v rfl rfl rfl (fun _ => ov_move rfl rfl) ?_
      refine rq_v rfl rfl rfl (fun _ => ov_index1 rfl Try.underlying23 (by kernel_rfl) rfl rfl ⟨by omega, by omega⟩ rfl) ?_
      refine rq_v rfl rfl rfl (fun _ => ov_load rfl Try.underlying2 rfl rfl (by show World.cell? w7 _ = _; first | exact hO2.cellI 0 rfl _ (by omega) (by omega) | exact hO2.cellL 0 rfl rfl | exact hO2.cellI 1 rfl _ (by omega) (by omega) | exact hO2.cellL 1 rfl rfl | exact hO2.cellI 2 rfl _ (by omega) (by omega) | exact hO2.cellL 2 rfl rfl | exact hO2.cellI 3 rfl _ (by omega) (by omega) | exact hO2.cellL 3 rfl rfl | exact hO2.cellI 4 rfl _ (by omega) (by omega) | exact hO2.cellL 4 rfl rfl | exact hO2.cellI 5 rfl _ (by omega) (by omega) | exact hO2.cellL 5 rfl rfl)) ?_
      refine rq_v rfl rfl rfl (fun _ => ov_lss rfl rfl rfl) ?_
      refine rq_v rfl rfl rfl (fun _ => ov_move rfl rfl) ?_
      first | refine rq_split_dec 22 rfl (fun hg11 => ?_) (fun hg11 => ?_) | refine rq_split 22 rfl (fun hg11 => ?_) (fun hg11 => ?_)
      · refine rq_gv rfl rfl rfl rfl rfl (fun _ => ov_move rfl rfl) ?_
        refine rq_gv rfl rfl rfl rfl rfl (fun _ => ov_lss rfl rfl rfl) ?_
        refine rq_gv rfl rfl rfl rfl rfl (fun _ => ov_move rfl rfl) ?_
        first | refine rq_split_dec 25 rfl (fun hg12 => ?_) (fun hg12 => ?_) | refine rq_split 25 rfl (fun hg12 => ?_) (fun hg12 => ?_)
        · refine rq_gskip rfl rfl rfl rfl rfl rfl ?_
          refine rq_gskip rfl rfl rfl rfl rfl rfl ?_
          refine rq_gskip rfl rfl rfl rfl rfl rfl ?_
          refine rq_gskip rfl rfl rfl rfl rfl rfl ?_
          refine rq_gskip rfl rfl rfl rfl rfl rfl ?_
          refine rq_gskip rfl rfl rfl rfl rfl rfl ?_
          refine rq_gskip rfl rfl rfl rfl rfl rfl ?_
          refine rq_gskip rfl rfl rfl rfl rfl rfl ?_
          refine rq_gskip rfl rfl rfl rfl rfl rfl ?_
          refine rq_gv rfl rfl rfl rfl rfl (fun _ => ov_pick_t rfl rfl rfl) ?_
          refine rq_v rfl rfl rfl (fun _ => ov_pick_t rfl rfl rfl) ?_
          refine rq_nil (fun n => hk9 n _ (jbt rfl (by first | omega | grind)) (And.intro rfl (And.intro rfl (And.intro rfl (And.intro rfl (And.intro rfl trivial))))))
        · refine rq_gv rfl rfl rfl rfl rfl (fun _ => ov_move rfl rfl) ?_
          refine rq_gv rfl rfl rfl rfl rfl (fun _ => ov_move rfl rfl) ?_
          refine rq_gv rfl rfl rfl rfl rfl (fun _ => ov_index1 rfl Try.underlying23 (by kernel_rfl) rfl rfl ⟨by omega, by omega⟩ rfl) ?_
          refine rq_gv rfl rfl rfl rfl rfl (fun _ => ov_load rfl Try.underlying2 rfl rfl (by show World.cell? w7 _ = _; first | exact hO2.cellI 0 rfl _ (by omega) (by omega) | exact hO2.cellL 0 rfl rfl | exact hO2.cellI 1 rfl _ (by omega) (by omega) | exact hO2.cellL 1 rfl rfl | exact hO2.cellI 2 rfl _ (by omega) (by omega) | exact hO2.cellL 2 rfl rfl | exact hO2.cellI 3 rfl _ (by omega) (by omega) | exact hO2.cellL 3 rfl rfl | exact hO2.cellI 4 rfl _ (by omega) (by omega) | exact hO2.cellL 4 rfl rfl | exact hO2.cellI 5 rfl _ (by omega) (by omega) | exact hO2.cellL 5 rfl rfl)) ?_
          refine rq_gv rfl rfl rfl rfl rfl (fun _ => ov_move rfl rfl) ?_
          refine rq_gv rfl rfl rfl rfl rfl (fun _ => ov_move rfl rfl) ?_
          refine rq_gv rfl rfl rfl rfl rfl (fun _ => ov_index1 rfl Try.underlying23 (by kernel_rfl) rfl rfl ⟨by omega, by omega⟩ rfl) ?_
          refine rq_gv rfl rfl rfl rfl rfl (fun _ => ov_load rfl Try.underlying2 rfl rfl (by show World.cell? w7 _ = _; first | exact hO2.cellI 0 rfl _ (by omega) (by omega) | exact hO2.cellL 0 rfl rfl | exact hO2.cellI 1 rfl _ (by omega) (by omega) | exact hO2.cellL 1 rfl rfl | exact hO2.cellI 2 rfl _ (by omega) (by omega) | exact hO2.cellL 2 rfl rfl | exact hO2.cellI 3 rfl _ (by omega) (by omega) | exact hO2.cellL 3 rfl rfl | exact hO2.cellI 4 rfl _ (by omega) (by omega) | exact hO2.cellL 4 rfl rfl | exact hO2.cellI 5 rfl _ (by omega) (by omega) | exact hO2.cellL 5 rfl rfl)) ?_
          refine rq_gv rfl rfl rfl rfl rfl (fun _ => ov_lss rfl rfl rfl) ?_
          refine rq_gv rfl rfl rfl rfl rfl (fun _ => ov_pick_f rfl rfl rfl) ?_
          refine rq_v rfl rfl rfl (fun _ => ov_pick_t rfl rfl rfl) ?_
          refine rq_nil (fun n => hk9 n _ (jbd rfl (by first | omega | grind)) (And.intro rfl (And.intro rfl (And.intro rfl (And.intro rfl (And.intro rfl trivial))))))
      · refine rq_gskip rfl rfl rfl rfl rfl rfl ?_
        refine rq_gskip rfl rfl rfl rfl rfl rfl ?_
        refine rq_gskip rfl rfl rfl rfl rfl rfl ?_
        refine rq_gundef rfl rfl rfl rfl rfl ?_
        refine rq_gundef rfl rfl rfl rfl rfl ?_
        refine rq_gundef rfl rfl rfl rfl rfl ?_
        refine rq_gundef rfl rfl rfl rfl rfl ?_
        refine rq_gundef rfl rfl rfl rfl rfl ?_
        refine rq_gundef rfl rfl rfl rfl rfl ?_
        refine rq_gundef rfl rfl rfl rfl rfl ?_
        refine rq_gundef rfl rfl rfl rfl rfl ?_
        refine rq_gundef rfl rfl rfl rfl rfl ?_
        refine rq_gskip rfl rfl rfl rfl rfl rfl ?_
        refine rq_v rfl rfl rfl (fun _ => ov_pick_f rfl rfl rfl) ?_
        refine rq_nil (fun n => hk9 n _ (jbf rfl (by first | omega | grind)) (And.intro rfl (And.intro rfl (And.intro rfl (And.intro rfl (And.intro rfl trivial))))))
    · have hO14 := hO2.drewN n10
      generalize World.drewN w7 n10 = w13 at hO14 ⊢
      show Run _ _ _ _ [(36, _), (3, _), (4, _), (5, _), (6, _), (7, _)] _ _
      refine Run.keep [3, 4, 5, 6, 7, 36] (F' := [(3, _), (4, _), (5, _), (6, _), (7, _), (36, _)]) rfl ?_
      refine run_join1 (fun (pa2 : Int) => [(5, .int .i64 pa2)]) [3, 4, 6, 7] (fun (pa2 : Int) (w15 : World) => payU g (i + 1) pa2 ∧ Own w.heap.size w w15 [co, some (vch b3 2 n (fun i => .int .i64 (g i)))]) (fun hk16 => ?_) ?_
      · first | refine run_cond_dec rfl (fun h3 => ?_) (fun h3 => ?_) | refine run_cond rfl (fun h3 => ?_) (fun h3 => ?_)
        · refine run_region ?_
          refine rl_v rfl rfl rfl (ov_move rfl rfl) ?_
          refine rl_v rfl rfl rfl (ov_assign rfl rfl) ?_
          refine rl_nil ?_
          refine Run.use (hk16 _ _ ?_) (And.intro (by first | with_reducible rfl | exact slot_int rfl (by first | omega) | rfl) (And.intro rfl (And.intro rfl (And.intro rfl (And.intro rfl trivial)))))
          exact ⟨hpa.yes hi0 h3, hO14⟩
        · refine run_skip ?_
          refine Run.use (hk16 _ _ ?_) (And.intro (by first | with_reducible rfl | exact slot_int rfl (by first | omega) | rfl) (And.intro rfl (And.intro rfl (And.intro rfl (And.intro rfl trivial)))))
          exact ⟨hpa.no h3, hO14⟩
      · intro pa2 w15 hJw15
        obtain ⟨hpa2, hO3⟩ := hJw15
        show Run _ _ _ _ [(5, _), (3, _), (4, _), (6, _), (7, _)] _ _
        refine run_seq ?_
        refine run_quiet_join mixed (by kernel_rfl) 57 (.bool (decide (0 < g i ∧ (ge < 0 ∨ g ge < g i)))) [3, 4, 5, 6, 7] (fun hk17 => ?_) (fun n18 => ?_)
        · refine rq_v rfl rfl rfl (fun _ => ov_move rfl rfl) ?_
          refine rq_v rfl rfl rfl (fun _ => ov_move rfl rfl) ?_
          refine rq_v rfl rfl rfl (fun _ => ov_index1 rfl Try.underlying23 (by kernel_rfl) rfl rfl ⟨by omega, by omega⟩ rfl) ?_
          refine rq_v rfl rfl rfl (fun _ => ov_load rfl Try.underlying2 rfl rfl (by show World.cell? w15 _ = _; first | exact hO3.cellI 0 rfl _ (by omega) (by omega) | exact hO3.cellL 0 rfl rfl | exact hO3.cellI 1 rfl _ (by omega) (by omega) | exact hO3.cellL 1 rfl rfl | exact hO3.cellI 2 rfl _ (by omega) (by omega) | exact hO3.cellL 2 rfl rfl | exact hO3.cellI 3 rfl _ (by omega) (by omega) | exact hO3.cellL 3 rfl rfl | exact hO3.cellI 4 rfl _ (by omega) (by omega) | exact hO3.cellL 4 rfl rfl | exact hO3.cellI 5 rfl _ (by omega) (by omega) | exact hO3.cellL 5 rfl rfl)) ?_
          refine rq_v rfl rfl rfl (fun _ => ov_gtr rfl rfl rfl) ?_
          refine rq_v rfl rfl rfl (fun _ => ov_move rfl rfl) ?_
          first | refine rq_split_dec 43 rfl (fun hg19 => ?_) (fun hg19 => ?_) | refine rq_split 43 rfl (fun hg19 => ?_) (fun hg19 => ?_)
          · refine rq_gv rfl rfl rfl rfl rfl (fun _ => ov_move rfl rfl) ?_
            refine rq_gv rfl rfl rfl rfl rfl (fun _ => ov_lss rfl rfl rfl) ?_
            refine rq_gv rfl rfl rfl rfl rfl (fun _ => ov_move rfl rfl) ?_
            first | refine rq_split_dec 46 rfl (fun hg20 => ?_) (fun hg20 => ?_) | refine rq_split 46 rfl (fun hg20 => ?_) (fun hg20 => ?_)
            · refine rq_gskip rfl rfl rfl rfl rfl rfl ?_
              refine rq_gskip rfl rfl rfl rfl rfl rfl ?_
              refine rq_gskip rfl rfl rfl rfl rfl rfl ?_
              refine rq_gskip rfl rfl rfl rfl rfl rfl ?_
              refine rq_gskip rfl rfl rfl rfl rfl rfl ?_
              refine rq_gskip rfl rfl rfl rfl rfl rfl ?_
              refine rq_gskip rfl rfl rfl rfl rfl rfl ?_
              refine rq_gskip rfl rfl rfl rfl rfl rfl ?_
              refine rq_gskip rfl rfl rfl rfl rfl rfl ?_
              refine rq_gv rfl rfl rfl rfl rfl (fun _ => ov_pick_t rfl rfl rfl) ?_
              refine rq_v rfl rfl rfl (fun _ => ov_pick_t rfl rfl rfl) ?_
              refine rq_nil (fun n => hk17 n _ (jbt rfl (by first | omega | grind)) (And.intro rfl (And.intro rfl (And.intro rfl (And.intro rfl (And.intro rfl trivial))))))
            · refine rq_gv rfl rfl rfl rfl rfl (fun _ => ov_move rfl rfl) ?_
              refine rq_gv rfl rfl rfl rfl rfl (fun _ => ov_move rfl rfl) ?_
              refine rq_gv rfl rfl rfl rfl rfl (fun _ => ov_index1 rfl Try.underlying23 (by kernel_rfl) rfl rfl ⟨by omega, by omega⟩ rfl) ?_
              refine rq_gv rfl rfl rfl rfl rfl (fun _ => ov_load rfl Try.underlying2 rfl rfl (by show World.cell? w15 _ = _; first | exact hO3.cellI 0 rfl _ (by omega) (by omega) | exact hO3.cellL 0 rfl rfl | exact hO3.cellI 1 rfl _ (by omega) (by omega) | exact hO3.cellL 1 rfl rfl | exact hO3.cellI 2 rfl _ (by omega) (by omega) | exact hO3.cellL 2 rfl rfl | exact hO3.cellI 3 rfl _ (by omega) (by omega) | exact hO3.cellL 3 rfl rfl | exact hO3.cellI 4 rfl _ (by omega) (by omega) | exact hO3.cellL 4 rfl rfl | exact hO3.cellI 5 rfl _ (by omega) (by omega) | exact hO3.cellL 5 rfl rfl)) ?_
              refine rq_gv rfl rfl rfl rfl rfl (fun _ => ov_move rfl rfl) ?_
              refine rq_gv rfl rfl rfl rfl rfl (fun _ => ov_move rfl rfl) ?_
              refine rq_gv rfl rfl rfl rfl rfl (fun _ => ov_index1 rfl Try.underlying23 (by kernel_rfl) rfl rfl ⟨by omega, by omega⟩ rfl) ?_
              refine rq_gv rfl rfl rfl rfl rfl (fun _ => ov_load rfl Try.underlying2 rfl rfl (by show World.cell? w15 _ = _; first | exact hO3.cellI 0 rfl _ (by omega) (by omega) | exact hO3.cellL 0 rfl rfl | exact hO3.cellI 1 rfl _ (by omega) (by omega) | exact hO3.cellL 1 rfl rfl | exact hO3.cellI 2 rfl _ (by omega) (by omega) | exact hO3.cellL 2 rfl rfl | exact hO3.cellI 3 rfl _ (by omega) (by omega) | exact hO3.cellL 3 rfl rfl | exact hO3.cellI 4 rfl _ (by omega) (by omega) | exact hO3.cellL 4 rfl rfl | exact hO3.cellI 5 rfl _ (by omega) (by omega) | exact hO3.cellL 5 rfl rfl)) ?_
              refine rq_gv rfl rfl rfl rfl rfl (fun _ => ov_gtr rfl rfl rfl) ?_
              refine rq_gv rfl rfl rfl rfl rfl (fun _ => ov_pick_f rfl rfl rfl) ?_
              refine rq_v rfl rfl rfl (fun _ => ov_pick_t rfl rfl rfl) ?_
              refine rq_nil (fun n => hk17 n _ (jbd rfl (by first | omega | grind)) (And.intro rfl (And.intro rfl (And.intro rfl (And.intro rfl (And.intro rfl trivial))))))
          · refine rq_gskip rfl rfl rfl rfl rfl rfl ?_
            refine rq_gskip rfl rfl rfl rfl rfl rfl ?_
            refine rq_gskip rfl rfl rfl rfl rfl rfl ?_
            refine rq_gundef rfl rfl rfl rfl rfl ?_
            refine rq_gundef rfl rfl rfl rfl rfl ?_
            refine rq_gundef rfl rfl rfl rfl rfl ?_
            refine rq_gundef rfl rfl rfl rfl rfl ?_
            refine rq_gundef rfl rfl rfl rfl rfl ?_
            refine rq_gundef rfl rfl rfl rfl rfl ?_
            refine rq_gundef rfl rfl rfl rfl rfl ?_
            refine rq_gundef rfl rfl rfl rfl rfl ?_
            refine rq_gundef rfl rfl rfl rfl rfl ?_
            refine rq_gskip rfl rfl rfl rfl rfl rfl ?_
            refine rq_v rfl rfl rfl (fun _ => ov_pick_f rfl rfl rfl) ?_
            refine rq_nil (fun n => hk17 n _ (jbf rfl (by first | omega | grind)) (And.intro rfl (And.intro rfl (And.intro rfl (And.intro rfl (And.intro rfl trivial))))))
        · have hO22 := hO3.drewN n18
          generalize World.drewN w15 n18 = w21 at hO22 ⊢
          show Run _ _ _ _ [(57, _), (3, _), (4, _), (5, _), (6, _), (7, _)] _ _
          first | refine run_cond_dec rfl (fun h4 => ?_) (fun h4 => ?_) | refine run_cond rfl (fun h4 => ?_) (fun h4 => ?_)
          · refine run_region ?_
            refine rl_v rfl rfl rfl (ov_move rfl rfl) ?_
            refine rl_v rfl rfl rfl (ov_assign rfl rfl) ?_
            refine rl_nil ?_
            refine run_inBlock ?_
            refine run_region ?_
            refine rl_v rfl rfl rfl (ov_move rfl rfl) ?_
            refine rl_v rfl rfl rfl (ov_add rfl rfl rfl (by omega)) ?_
            refine rl_v rfl rfl rfl (ov_assign rfl rfl) ?_
            refine rl_nil ?_
            refine Run.use (ih8 (i + 1) (pa2) (i) _ ?_ ?_) (And.intro (by first | with_reducible rfl | exact slot_int rfl (by first | omega) | rfl) (And.intro (by first | with_reducible rfl | exact slot_int rfl (by first | omega) | rfl) (And.intro (by first | with_reducible rfl | exact slot_int rfl (by first | omega) | rfl) (And.intro rfl (And.intro rfl trivial)))))
            · first | omega | (dsimp only; omega)
            · exact ⟨by omega, by omega, hpa2, hge.yes hi0 h4, hO22⟩
          · refine run_skip ?_
            refine run_inBlock ?_
            refine run_region ?_
            refine rl_v rfl rfl rfl (ov_move rfl rfl) ?_
            refine rl_v rfl rfl rfl (ov_add rfl rfl rfl (by omega)) ?_
            refine rl_v rfl rfl rfl (ov_assign rfl rfl) ?_
            refine rl_nil ?_
            refine Run.use (ih8 (i + 1) (pa2) (ge) _ ?_ ?_) (And.intro (by first | with_reducible rfl | exact slot_int rfl (by first | omega) | rfl) (And.intro (by first | with_reducible rfl | exact slot_int rfl (by first | omega) | rfl) (And.intro (by first | with_reducible rfl | exact slot_int rfl (by first | omega) | rfl) (And.intro rfl (And.intro rfl trivial)))))
            · first | omega | (dsimp only; omega)
            · exact ⟨by omega, by omega, hpa2, hge.no h4, hO22⟩
  · obtain rfl : i = n := by omega
    have hpr := hpa.rng
    refine run_exit rfl ?_
    refine run_seq ?_
    refine run_seq ?_
    refine run_region ?_
    refine rl_v rfl rfl rfl (ov_move rfl rfl) ?_
    refine rl_v rfl rfl rfl (ov_lss rfl rfl rfl) ?_
    refine rl_nil ?_
    first | refine run_cond_dec rfl (fun h5 => ?_) (fun h5 => ?_) | refine run_cond rfl (fun h5 => ?_) (fun h5 => ?_)
    · have hnone : ∀ j : Int, 0 ≤ j → j < n → 0 ≤ stP n (ps n D) m j := fun j j0 j1 => by
        rcases hpa with ⟨_, q⟩ | ⟨q, _⟩
        · rw [← hg j j0 j1]; exact q j j0 j1
        · omega
      refine run_seq ?_
      refine run_region ?_
      refine rl_v rfl rfl rfl (ov_move rfl rfl) ?_
      refine rl_v rfl rfl rfl (ov_assign rfl rfl) ?_
      refine rl_nil ?_
      refine run_ret Try.func54 (res1 Try.results54 rfl) ?_
      exact ⟨m, vo, co, rfl, ⟨hsome, hnone⟩, hm, hro, hO2.sub (.cons_cons _ (List.nil_sublist _))⟩
    · have hpay0 : IsPay n g pa := by
        rcases hpa with ⟨q, _⟩ | q
        · omega
        · exact q
      have hpay : IsPay n (stP n (ps n D) m) pa := hpay0.congr hg
      have hsum := stP_sum (ps_sum n D) m hsome
      obtain ⟨bg, hbg0, hbg1, hbg2⟩ := sum_pos hsum hpay.1.1 hpay.1.2 hpay.2.1
      have hget0 : IsGet n g ge := by
        rcases hge with ⟨_, q⟩ | q
        · have := q bg hbg0 hbg1; rw [hg bg hbg0 hbg1] at this; omega
        · exact q
      have hget : IsGet n (stP n (ps n D) m) ge := hget0.congr hg
      have hab := pg_ne hpay hget
      have hnz := stP_nz (ps_sum n D) m hsome
      have hn2 := nz_two hpay hget
      have e1 := hg pa hpay.1.1 hpay.1.2
      have e2 := hg ge hget.1.1 hget.1.2
      have hr1 := hrg pa
      have hr2 := hrg ge
      have hp1 := hpay0.2.1
      have hp2 := hget0.2.1
      have hpa1 := hpay.1
      have hge1 := hget.1
      have hmv : moved n (stP n (ps n D) m) = min (-(g pa)) (g ge) := by unfold moved; rw [payer_eq hpay, getter_eq hget, e1, e2]
      refine run_skip ?_
      refine run_seq ?_
      refine run_quiet mixed (by kernel_rfl) ?_
      refine rq_v rfl rfl rfl (fun _ => ov_move rfl rfl) ?_
      refine rq_v rfl rfl rfl (fun _ => ov_move rfl rfl) ?_
      refine rq_v rfl rfl rfl (fun _ => ov_index1 rfl Try.underlying23 (by kernel_rfl) rfl rfl ⟨by omega, by omega⟩ rfl) ?_
      refine rq_v rfl rfl rfl (fun _ => ov_load rfl Try.underlying2 rfl rfl (by show World.cell? w7 _ = _; first | exact hO2.cellI 0 rfl _ (by omega) (by omega) | exact hO2.cellL 0 rfl rfl | exact hO2.cellI 1 rfl _ (by omega) (by omega) | exact hO2.cellL 1 rfl rfl | exact hO2.cellI 2 rfl _ (by omega) (by omega) | exact hO2.cellL 2 rfl rfl | exact hO2.cellI 3 rfl _ (by omega) (by omega) | exact hO2.cellL 3 rfl rfl | exact hO2.cellI 4 rfl _ (by omega) (by omega) | exact hO2.cellL 4 rfl rfl | exact hO2.cellI 5 rfl _ (by omega) (by omega) | exact hO2.cellL 5 rfl rfl)) ?_
      refine rq_v rfl rfl rfl (fun _ => ov_neg rfl rfl (by omega)) ?_
      refine rq_v rfl rfl rfl (fun _ => ov_move rfl rfl) ?_
      refine rq_v rfl rfl rfl (fun _ => ov_move rfl rfl) ?_
      refine rq_v rfl rfl rfl (fun _ => ov_index1 rfl Try.underlying23 (by kernel_rfl) rfl rfl ⟨by omega, by omega⟩ rfl) ?_
      refine rq_v rfl rfl rfl (fun _ => ov_load rfl Try.underlying2 rfl rfl (by show World.cell? w7 _ = _; first | exact hO2.cellI 0 rfl _ (by omega) (by omega) | exact hO2.cellL 0 rfl rfl | exact hO2.cellI 1 rfl _ (by omega) (by omega) | exact hO2.cellL 1 rfl rfl | exact hO2.cellI 2 rfl _ (by omega) (by omega) | exact hO2.cellL 2 rfl rfl | exact hO2.cellI 3 rfl _ (by omega) (by omega) | exact hO2.cellL 3 rfl rfl | exact hO2.cellI 4 rfl _ (by omega) (by omega) | exact hO2.cellL 4 rfl rfl | exact hO2.cellI 5 rfl _ (by omega) (by omega) | exact hO2.cellL 5 rfl rfl)) ?_
      refine rq_v rfl rfl rfl (fun _ => ov_min rfl rfl rfl) ?_
      refine rq_v rfl rfl rfl (fun _ => ov_assign rfl rfl) ?_
      refine rq_nil (fun n23 => ?_)
      have hO25 := hO2.drewN n23
      generalize World.drewN w7 n23 = w24 at hO25 ⊢
      refine run_seq ?_
      refine run_region ?_
      refine rl_v rfl rfl rfl (ov_move rfl rfl) ?_
      refine rl_v rfl rfl rfl (ov_move rfl rfl) ?_
      refine rl_v rfl rfl rfl (ov_move rfl rfl) ?_
      refine rl_v rfl rfl rfl (ov_move rfl rfl) ?_
      refine rl_v rfl rfl rfl (ov_buildL rfl lay_85 rfl (us := [_, _, _]) rfl) ?_
      refine rl_ow rfl (ow_build [_] rfl rfl rfl rfl rfl Try.underlying82 info_85 (by decide) hO25 rfl rfl) ?_
      rintro _ w26 ⟨bt, rfl, hO27, hs28⟩
      refine rl_ow rfl (ow_appR1 rfl rfl rfl Try.underlying82 info_85 rfl rfl hO27 0 hro rfl rfl rfl rfl rfl ⟨by omega, by omega⟩) ?_
      rintro _ w29 ⟨vo2, co2, rfl, hO30, hro2, hs31⟩
      refine rl_v rfl rfl rfl (ov_assign rfl rfl) ?_
      refine rl_nil ?_
      refine run_seq ?_
      refine run_region ?_
      refine rl_v rfl rfl rfl (ov_move rfl rfl) ?_
      refine rl_v rfl rfl rfl (ov_move rfl rfl) ?_
      refine rl_v rfl rfl rfl (ov_move rfl rfl) ?_
      refine rl_v rfl rfl rfl (ov_move rfl rfl) ?_
      refine rl_v rfl rfl rfl (ov_index1 rfl Try.underlying23 (by kernel_rfl) rfl rfl ⟨by omega, by omega⟩ rfl) ?_
      refine rl_v rfl rfl rfl (ov_load rfl Try.underlying2 rfl rfl (by first | exact hO30.cellI 0 rfl _ (by omega) (by omega) | exact hO30.cellL 0 rfl rfl | exact hO30.cellI 1 rfl _ (by omega) (by omega) | exact hO30.cellL 1 rfl rfl | exact hO30.cellI 2 rfl _ (by omega) (by omega) | exact hO30.cellL 2 rfl rfl | exact hO30.cellI 3 rfl _ (by omega) (by omega) | exact hO30.cellL 3 rfl rfl | exact hO30.cellI 4 rfl _ (by omega) (by omega) | exact hO30.cellL 4 rfl rfl | exact hO30.cellI 5 rfl _ (by omega) (by omega) | exact hO30.cellL 5 rfl rfl)) ?_
      refine rl_v rfl rfl rfl (ov_move rfl rfl) ?_
      refine rl_v rfl rfl rfl (ov_add rfl rfl rfl (by omega)) ?_
      refine rl_v rfl rfl rfl (ov_index1 rfl Try.underlying23 (by kernel_rfl) rfl rfl ⟨by omega, by omega⟩ rfl) ?_
      refine rl_ow rfl (ow_storeI rfl rfl (by kernel_rfl) hO30 1 rfl rfl ⟨by omega, by omega⟩ rfl) ?_
      rintro _ w32 ⟨rfl, hO33, hs34⟩
      have hu : upd g pa (g pa + min (-(g pa)) (g ge)) ge = g ge := upd_ne _ _ (fun e => hab e.symm)
      refine rl_nil ?_
      refine run_region ?_
      refine rl_v rfl rfl rfl (ov_move rfl rfl) ?_
      refine rl_v rfl rfl rfl (ov_move rfl rfl) ?_
      refine rl_v rfl rfl rfl (ov_move rfl rfl) ?_
      refine rl_v rfl rfl rfl (ov_move rfl rfl) ?_
      refine rl_v rfl rfl rfl (ov_index1 rfl Try.underlying23 (by kernel_rfl) rfl rfl ⟨by omega, by omega⟩ rfl) ?_
      refine rl_v rfl rfl rfl (ov_load rfl Try.underlying2 rfl rfl (by first | exact hO33.cellI 0 rfl _ (by omega) (by omega) | exact hO33.cellL 0 rfl rfl | exact hO33.cellI 1 rfl _ (by omega) (by omega) | exact hO33.cellL 1 rfl rfl | exact hO33.cellI 2 rfl _ (by omega) (by omega) | exact hO33.cellL 2 rfl rfl | exact hO33.cellI 3 rfl _ (by omega) (by omega) | exact hO33.cellL 3 rfl rfl | exact hO33.cellI 4 rfl _ (by omega) (by omega) | exact hO33.cellL 4 rfl rfl | exact hO33.cellI 5 rfl _ (by omega) (by omega) | exact hO33.cellL 5 rfl rfl)) ?_
      refine rl_v rfl rfl rfl (ov_move rfl rfl) ?_
      refine rl_v rfl rfl rfl (ov_sub rfl rfl rfl (by omega)) ?_
      refine rl_v rfl rfl rfl (ov_index1 rfl Try.underlying23 (by kernel_rfl) rfl rfl ⟨by omega, by omega⟩ rfl) ?_
      refine rl_ow rfl (ow_storeI rfl rfl (by kernel_rfl) hO33 1 rfl rfl ⟨by omega, by omega⟩ rfl) ?_
      rintro _ w35 ⟨rfl, hO36, hs37⟩
      have hst : ∀ j : Int, 0 ≤ j → j < n → tfr g pa ge (min (-(g pa)) (g ge)) j = stP n (ps n D) (m + 1) j := fun j j0 j1 => by
        show _ = nxt n (stP n (ps n D) m) j
        rw [nxt_eq hpay hget, tfr_at hab, tfr_at hab, e1, e2, hg j j0 j1]
      refine rl_nil ?_
      refine run_inBlock ?_
      refine Run.use (ih6 (m + 1) (vo2) (co2) (tfr g pa ge (min (-(g pa)) (g ge))) _ ?_ ?_) (And.intro rfl (And.intro rfl trivial))
      · first | omega | (dsimp only; omega)
      · exact ⟨by omega, nxt_rng hpay hget hrg, fun j hj => (by omega : j = m ∨ j < m).elim (fun e => by rw [e]; exact ⟨pa, hpay.1.1, hpay.1.2, hpay.2.1⟩) (fun e => hsome j e), hro2.congr fun k k0 k1 => trG_snoc n (ps n D) m pa ge (min (-(g pa)) (g ge)) (payer_eq hpay) (getter_eq hget) hmv k k0 k1, hst, hO36⟩
end Go.Proofs.Ytiambddcpflkhaa
