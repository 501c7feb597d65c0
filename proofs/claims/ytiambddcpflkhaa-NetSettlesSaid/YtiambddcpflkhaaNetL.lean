/- Crises: the small functions of the statements' package and of the reference: crisis, give, longs, ints, Owes, Received, Paid. -/
import Derived.Test.YtiambddcpflkhaaPick
set_option maxRecDepth 100000
namespace Go.Proofs.Ytiambddcpflkhaa
open Go.RowKit Go.Proofs

/-- A result that lies in a struct's block. -/
theorem resW {P : Program} {N : Nat} {F : Fr} {w : World} {fn : Func} {t ty : Nat} {b B : Nat} {t2 : TypeId} {w0 : World} {H : List (Option Blk)} {dd : TypeDesc} {vs : List Value} (hr : fn.results = #[.cell t ty]) (hv : Fr.get F t = some (.pointer (some ⟨b, 0, none⟩)))
    (hT : P.underlying ty = some dd) (hd : dd.isRow = true) (hi : (P.info? ty).map (·.size) = some vs.length) (hO : Own B w0 w H) (k : Nat) (hk : H[k]? = some (some (lch b t2 vs))) : ∀ a, Holds N F a → (results fn a.tmps).run P w = .ok (.agg vs.toArray) w := by
  intro a ha
  have h1 := ha.at_ t _ hv
  have h2 := run_loadVar_mid (P := P) w b 0 ty vs dd (hO.rangeL k hk) hT hd hi
  simp [results, hr, Array.getD_eq_getD_getElem?, h1, asAddr, h2]

/-- 'a[:]', a an array's address. -/
theorem ov_sliceAF {P : Program} {N : Nat} {o : Oper} {F : Fr} {w : World} {T E : TypeId} {x : Operand} {b off n : Nat} {s : Nat} (ho : o.op = .slice T x none none none) (hT : P.underlying T = some (.array n E)) (hs : (P.info? E).map (·.size) = some s)
    (hx : Fr.ev F x = some (.pointer (some ⟨b, off, none⟩))) : OpV P N o F w (.slice (some ⟨b, off, none⟩) n n) := by
  intro a ha
  cases hq : P.info? E with
  | none => simp [hq] at hs
  | some q =>
    unfold execOp
    rw [ho]
    have e : ∀ ad : Addr, ad.add 0 = ad := fun ad => by unfold Addr.add; simp
    simp [Instr.sliceAt, Instr.sureAddr, Instr.sliceBounds, run_underlying hT, ha.ev hx, Result.andThen, sizeOf, typeInfo, hq, e]

theorem longs_any (ao bo : Option Addr) (n c m cb : Nat) (X Y : Int → Int) (w : World) (hn : n ≤ 1000000)
    (h : IAt w.heap.size w ao n (fun i => .int .i64 (X i))) (h2 : IAt w.heap.size w bo m (fun i => .int .i64 (Y i))) :
    Calls Try.prog 23 #[.slice ao n c, .slice bo m cb] w fun e w' => (∃ b, e = .returned (.bool b) ∧ (b = true ↔ n = m ∧ ∀ i : Int, 0 ≤ i → i < n → X i = Y i)) ∧ Below w.heap.size w w' := by
  obtain ⟨gb, go, hga, hrow⟩ := h.open
  obtain ⟨qb, qo, hqa, hq⟩ := h2.open
  refine calls_of_run (F := [(0, _), (1, _)]) Try.func23 rfl Try.ntmps23 rfl rfl ?_
  have hO0 := Own.init w
  refine run_seq ?_
  refine run_region ?_
  refine rl_v rfl rfl rfl (ov_assign rfl rfl) ?_
  refine rl_nil ?_
  refine run_seq ?_
  refine run_seq ?_
  refine run_region ?_
  refine rl_v rfl rfl rfl (ov_move rfl rfl) ?_
  refine rl_v rfl rfl rfl (ov_len rfl Try.underlying23 rfl) ?_
  refine rl_v rfl rfl rfl (ov_move rfl rfl) ?_
  refine rl_v rfl rfl rfl (ov_len rfl Try.underlying23 rfl) ?_
  refine rl_v rfl rfl rfl (ov_neq rfl rfl rfl) ?_
  refine rl_nil ?_
  first | refine run_cond_dec rfl (fun h1 => ?_) (fun h1 => ?_) | refine run_cond rfl (fun h1 => ?_) (fun h1 => ?_)
  · refine run_seq ?_
    refine run_region ?_
    refine rl_v rfl rfl rfl (ov_assign rfl rfl) ?_
    refine rl_nil ?_
    refine run_ret Try.func23 (res1 Try.results23 rfl) ?_
    exact ⟨⟨false, rfl, ⟨fun h => Bool.noConfusion h, fun ⟨h, _⟩ => by omega⟩⟩, hO0.below⟩
  · refine run_skip ?_
    refine run_seq ?_
    refine run_seq ?_
    refine run_region ?_
    refine rl_v rfl rfl rfl (ov_assign rfl rfl) ?_
    refine rl_nil ?_
    refine run_block ?_
    refine Run.keep [0, 1, 5] (F' := [(0, _), (1, _), (5, _)]) rfl ?_
    refine run_loop1 (fun (k : Int) => [(5, .int .i64 k)]) [0, 1] (fun (k : Int) (w1 : World) => 0 ≤ k ∧ k ≤ n ∧ (∀ i : Int, 0 ≤ i → i < k → X i = Y i) ∧ Own w.heap.size w w1 []) (fun (k : Int) => ((n : Int) - k).toNat) (0) ?_ (And.intro (by first | with_reducible rfl | exact slot_int rfl (by first | omega) | rfl) (And.intro rfl (And.intro rfl trivial))) ?_
    · exact ⟨by omega, by omega, fun i h0 h1 => by omega, hO0⟩
    intro k w1 hIw1 ih2
    obtain ⟨hk0, hk1, hall, hO⟩ := hIw1
    show Run _ _ _ _ [(5, _), (0, _), (1, _)] _ _
    refine run_seq ?_
    refine run_seq ?_
    refine run_region ?_
    refine rl_v rfl rfl rfl (ov_move rfl rfl) ?_
    refine rl_v rfl rfl rfl (ov_move rfl rfl) ?_
    refine rl_v rfl rfl rfl (ov_len rfl Try.underlying23 rfl) ?_
    refine rl_v rfl rfl rfl (ov_lss rfl rfl rfl) ?_
    refine rl_nil ?_
    first | refine run_cond_dec rfl (fun h2 => ?_) (fun h2 => ?_) | refine run_cond rfl (fun h2 => ?_) (fun h2 => ?_)
    · refine run_skip ?_
      refine run_seq ?_
      refine run_block ?_
      refine run_seq ?_
      refine run_quiet mixed (by kernel_rfl) ?_
      refine rq_v rfl rfl rfl (fun _ => ov_move rfl rfl) ?_
      refine rq_v rfl rfl rfl (fun _ => ov_move rfl rfl) ?_
      refine rq_v rfl rfl rfl (fun _ => ov_index1 rfl Try.underlying23 (by kernel_rfl) rfl rfl ⟨by omega, by omega⟩ (by first | rfl | exact hga (by omega) | exact hqa (by omega))) ?_
      refine rq_v rfl rfl rfl (fun _ => ov_load rfl Try.underlying2 rfl rfl (by show World.cell? w1 _ = _; first | exact hrow _ hO.below _ (by omega) (by omega) | exact hq _ hO.below _ (by omega) (by omega) | exact hO.cellI 0 rfl _ (by omega) (by omega) | exact hO.cellL 0 rfl rfl | exact hO.cellI 1 rfl _ (by omega) (by omega) | exact hO.cellL 1 rfl rfl | exact hO.cellI 2 rfl _ (by omega) (by omega) | exact hO.cellL 2 rfl rfl | exact hO.cellI 3 rfl _ (by omega) (by omega) | exact hO.cellL 3 rfl rfl | exact hO.cellI 4 rfl _ (by omega) (by omega) | exact hO.cellL 4 rfl rfl | exact hO.cellI 5 rfl _ (by omega) (by omega) | exact hO.cellL 5 rfl rfl)) ?_
      refine rq_v rfl rfl rfl (fun _ => ov_move rfl rfl) ?_
      refine rq_v rfl rfl rfl (fun _ => ov_move rfl rfl) ?_
      refine rq_v rfl rfl rfl (fun _ => ov_index1 rfl Try.underlying23 (by kernel_rfl) rfl rfl ⟨by omega, by omega⟩ (by first | rfl | exact hga (by omega) | exact hqa (by omega))) ?_
      refine rq_v rfl rfl rfl (fun _ => ov_load rfl Try.underlying2 rfl rfl (by show World.cell? w1 _ = _; first | exact hrow _ hO.below _ (by omega) (by omega) | exact hq _ hO.below _ (by omega) (by omega) | exact hO.cellI 0 rfl _ (by omega) (by omega) | exact hO.cellL 0 rfl rfl | exact hO.cellI 1 rfl _ (by omega) (by omega) | exact hO.cellL 1 rfl rfl | exact hO.cellI 2 rfl _ (by omega) (by omega) | exact hO.cellL 2 rfl rfl | exact hO.cellI 3 rfl _ (by omega) (by omega) | exact hO.cellL 3 rfl rfl | exact hO.cellI 4 rfl _ (by omega) (by omega) | exact hO.cellL 4 rfl rfl | exact hO.cellI 5 rfl _ (by omega) (by omega) | exact hO.cellL 5 rfl rfl)) ?_
      refine rq_v rfl rfl rfl (fun _ => ov_neq rfl rfl rfl) ?_
      refine rq_nil (fun n3 => ?_)
      have hO5 := hO.drewN n3
      generalize World.drewN w1 n3 = w4 at hO5 ⊢
      first | refine run_cond_dec rfl (fun h3 => ?_) (fun h3 => ?_) | refine run_cond rfl (fun h3 => ?_) (fun h3 => ?_)
      · refine run_seq ?_
        refine run_region ?_
        refine rl_v rfl rfl rfl (ov_assign rfl rfl) ?_
        refine rl_nil ?_
        refine run_ret Try.func23 (res1 Try.results23 rfl) ?_
        exact ⟨⟨false, rfl, ⟨fun h => Bool.noConfusion h, fun ⟨_, h⟩ => absurd (h k hk0 h2) h3⟩⟩, hO5.below⟩
      · refine run_skip ?_
        refine run_inBlock ?_
        refine run_region ?_
        refine rl_v rfl rfl rfl (ov_move rfl rfl) ?_
        refine rl_v rfl rfl rfl (ov_add rfl rfl rfl (by omega)) ?_
        refine rl_v rfl rfl rfl (ov_assign rfl rfl) ?_
        refine rl_nil ?_
        refine Run.use (ih2 _ _ ?_ ?_) (And.intro (by first | with_reducible rfl | exact slot_int rfl (by first | omega) | rfl) (And.intro rfl (And.intro rfl trivial)))
        · first | omega | (dsimp only; omega)
        · exact ⟨by omega, by omega, fun i h0 h1' => (by omega : i = k ∨ i < k).elim (fun e => by rw [e]; exact Classical.not_not.1 h3) (fun e => hall i h0 e), hO5⟩
    · refine run_exit rfl ?_
      refine run_seq ?_
      refine run_region ?_
      refine rl_v rfl rfl rfl (ov_assign rfl rfl) ?_
      refine rl_nil ?_
      refine run_ret Try.func23 (res1 Try.results23 rfl) ?_
      exact ⟨⟨true, rfl, ⟨fun _ => ⟨by omega, fun i h0 h1' => hall i h0 (by omega)⟩, fun _ => rfl⟩⟩, hO.below⟩

theorem ints_any (ao bo : Option Addr) (n c m cb : Nat) (X Y : Int → Int) (w : World) (hn : n ≤ 1000000)
    (h : IAt w.heap.size w ao n (fun i => .int .i64 (X i))) (h2 : IAt w.heap.size w bo m (fun i => .int .i64 (Y i))) :
    Calls Try.prog 36 #[.slice ao n c, .slice bo m cb] w fun e w' => (∃ b, e = .returned (.bool b) ∧ (b = true ↔ n = m ∧ ∀ i : Int, 0 ≤ i → i < n → X i = Y i)) ∧ Below w.heap.size w w' := by
  obtain ⟨gb, go, hga, hrow⟩ := h.open
  obtain ⟨qb, qo, hqa, hq⟩ := h2.open
  refine calls_of_run (F := [(0, _), (1, _)]) Try.func36 rfl Try.ntmps36 rfl rfl ?_
  have hO0 := Own.init w
  refine run_seq ?_
  refine run_region ?_
  refine rl_v rfl rfl rfl (ov_assign rfl rfl) ?_
  refine rl_nil ?_
  refine run_seq ?_
  refine run_seq ?_
  refine run_region ?_
  refine rl_v rfl rfl rfl (ov_move rfl rfl) ?_
  refine rl_v rfl rfl rfl (ov_len rfl Try.underlying55 rfl) ?_
  refine rl_v rfl rfl rfl (ov_move rfl rfl) ?_
  refine rl_v rfl rfl rfl (ov_len rfl Try.underlying55 rfl) ?_
  refine rl_v rfl rfl rfl (ov_neq rfl rfl rfl) ?_
  refine rl_nil ?_
  first | refine run_cond_dec rfl (fun h1 => ?_) (fun h1 => ?_) | refine run_cond rfl (fun h1 => ?_) (fun h1 => ?_)
  · refine run_seq ?_
    refine run_region ?_
    refine rl_v rfl rfl rfl (ov_assign rfl rfl) ?_
    refine rl_nil ?_
    refine run_ret Try.func36 (res1 Try.results36 rfl) ?_
    exact ⟨⟨false, rfl, ⟨fun h => Bool.noConfusion h, fun ⟨h, _⟩ => by omega⟩⟩, hO0.below⟩
  · refine run_skip ?_
    refine run_seq ?_
    refine run_seq ?_
    refine run_region ?_
    refine rl_v rfl rfl rfl (ov_assign rfl rfl) ?_
    refine rl_nil ?_
    refine run_block ?_
    refine Run.keep [0, 1, 5] (F' := [(0, _), (1, _), (5, _)]) rfl ?_
    refine run_loop1 (fun (k : Int) => [(5, .int .i64 k)]) [0, 1] (fun (k : Int) (w1 : World) => 0 ≤ k ∧ k ≤ n ∧ (∀ i : Int, 0 ≤ i → i < k → X i = Y i) ∧ Own w.heap.size w w1 []) (fun (k : Int) => ((n : Int) - k).toNat) (0) ?_ (And.intro (by first | with_reducible rfl | exact slot_int rfl (by first | omega) | rfl) (And.intro rfl (And.intro rfl trivial))) ?_
    · exact ⟨by omega, by omega, fun i h0 h1 => by omega, hO0⟩
    intro k w1 hIw1 ih2
    obtain ⟨hk0, hk1, hall, hO⟩ := hIw1
    show Run _ _ _ _ [(5, _), (0, _), (1, _)] _ _
    refine run_seq ?_
    refine run_seq ?_
    refine run_region ?_
    refine rl_v rfl rfl rfl (ov_move rfl rfl) ?_
    refine rl_v rfl rfl rfl (ov_move rfl rfl) ?_
    refine rl_v rfl rfl rfl (ov_len rfl Try.underlying55 rfl) ?_
    refine rl_v rfl rfl rfl (ov_lss rfl rfl rfl) ?_
    refine rl_nil ?_
    first | refine run_cond_dec rfl (fun h2 => ?_) (fun h2 => ?_) | refine run_cond rfl (fun h2 => ?_) (fun h2 => ?_)
    · refine run_skip ?_
      refine run_seq ?_
      refine run_block ?_
      refine run_seq ?_
      refine run_quiet mixed (by kernel_rfl) ?_
      refine rq_v rfl rfl rfl (fun _ => ov_move rfl rfl) ?_
      refine rq_v rfl rfl rfl (fun _ => ov_move rfl rfl) ?_
      refine rq_v rfl rfl rfl (fun _ => ov_index1 rfl Try.underlying55 (by kernel_rfl) rfl rfl ⟨by omega, by omega⟩ (by first | rfl | exact hga (by omega) | exact hqa (by omega))) ?_
      refine rq_v rfl rfl rfl (fun _ => ov_load rfl Try.underlying3 rfl rfl (by show World.cell? w1 _ = _; first | exact hrow _ hO.below _ (by omega) (by omega) | exact hq _ hO.below _ (by omega) (by omega) | exact hO.cellI 0 rfl _ (by omega) (by omega) | exact hO.cellL 0 rfl rfl | exact hO.cellI 1 rfl _ (by omega) (by omega) | exact hO.cellL 1 rfl rfl | exact hO.cellI 2 rfl _ (by omega) (by omega) | exact hO.cellL 2 rfl rfl | exact hO.cellI 3 rfl _ (by omega) (by omega) | exact hO.cellL 3 rfl rfl | exact hO.cellI 4 rfl _ (by omega) (by omega) | exact hO.cellL 4 rfl rfl | exact hO.cellI 5 rfl _ (by omega) (by omega) | exact hO.cellL 5 rfl rfl)) ?_
      refine rq_v rfl rfl rfl (fun _ => ov_move rfl rfl) ?_
      refine rq_v rfl rfl rfl (fun _ => ov_move rfl rfl) ?_
      refine rq_v rfl rfl rfl (fun _ => ov_index1 rfl Try.underlying55 (by kernel_rfl) rfl rfl ⟨by omega, by omega⟩ (by first | rfl | exact hga (by omega) | exact hqa (by omega))) ?_
      refine rq_v rfl rfl rfl (fun _ => ov_load rfl Try.underlying3 rfl rfl (by show World.cell? w1 _ = _; first | exact hrow _ hO.below _ (by omega) (by omega) | exact hq _ hO.below _ (by omega) (by omega) | exact hO.cellI 0 rfl _ (by omega) (by omega) | exact hO.cellL 0 rfl rfl | exact hO.cellI 1 rfl _ (by omega) (by omega) | exact hO.cellL 1 rfl rfl | exact hO.cellI 2 rfl _ (by omega) (by omega) | exact hO.cellL 2 rfl rfl | exact hO.cellI 3 rfl _ (by omega) (by omega) | exact hO.cellL 3 rfl rfl | exact hO.cellI 4 rfl _ (by omega) (by omega) | exact hO.cellL 4 rfl rfl | exact hO.cellI 5 rfl _ (by omega) (by omega) | exact hO.cellL 5 rfl rfl)) ?_
      refine rq_v rfl rfl rfl (fun _ => ov_neq rfl rfl rfl) ?_
      refine rq_nil (fun n3 => ?_)
      have hO5 := hO.drewN n3
      generalize World.drewN w1 n3 = w4 at hO5 ⊢
      first | refine run_cond_dec rfl (fun h3 => ?_) (fun h3 => ?_) | refine run_cond rfl (fun h3 => ?_) (fun h3 => ?_)
      · refine run_seq ?_
        refine run_region ?_
        refine rl_v rfl rfl rfl (ov_assign rfl rfl) ?_
        refine rl_nil ?_
        refine run_ret Try.func36 (res1 Try.results36 rfl) ?_
        exact ⟨⟨false, rfl, ⟨fun h => Bool.noConfusion h, fun ⟨_, h⟩ => absurd (h k hk0 h2) h3⟩⟩, hO5.below⟩
      · refine run_skip ?_
        refine run_inBlock ?_
        refine run_region ?_
        refine rl_v rfl rfl rfl (ov_move rfl rfl) ?_
        refine rl_v rfl rfl rfl (ov_add rfl rfl rfl (by omega)) ?_
        refine rl_v rfl rfl rfl (ov_assign rfl rfl) ?_
        refine rl_nil ?_
        refine Run.use (ih2 _ _ ?_ ?_) (And.intro (by first | with_reducible rfl | exact slot_int rfl (by first | omega) | rfl) (And.intro rfl (And.intro rfl trivial)))
        · first | omega | (dsimp only; omega)
        · exact ⟨by omega, by omega, fun i h0 h1' => (by omega : i = k ∨ i < k).elim (fun e => by rw [e]; exact Classical.not_not.1 h3) (fun e => hall i h0 e), hO5⟩
    · refine run_exit rfl ?_
      refine run_seq ?_
      refine run_region ?_
      refine rl_v rfl rfl rfl (ov_assign rfl rfl) ?_
      refine rl_nil ?_
      refine run_ret Try.func36 (res1 Try.results36 rfl) ?_
      exact ⟨⟨true, rfl, ⟨fun _ => ⟨by omega, fun i h0 h1' => hall i h0 (by omega)⟩, fun _ => rfl⟩⟩, hO.below⟩

theorem give_any (ao bo : Option Addr) (n c m d : Nat) (w : World) :
    Calls Try.prog 20 #[.agg [.slice ao n c, .slice bo m d].toArray] w fun e w' => e = .returned (.agg [.slice ao n c, .slice bo m d].toArray) ∧ Below w.heap.size w w' := by
  refine calls_of_run (F := [(0, _)]) Try.func20 rfl Try.ntmps20 rfl rfl ?_
  have hO0 := Own.init w
  refine run_seq ?_
  refine run_region ?_
  refine rl_ow rfl (ow_box _ rfl rfl rfl rfl rfl hO0) ?_
  rintro _ w1 ⟨b1, rfl, hO2, hs3⟩
  refine rl_ow rfl (ow_alloc _ rfl rfl rfl zero_37 rfl hO2) ?_
  rintro _ w4 ⟨b2, rfl, hO5, hs6⟩
  refine rl_nil ?_
  refine run_seq ?_
  refine run_region ?_
  refine rl_v rfl rfl rfl (ov_fieldS rfl Try.underlying35 rfl (fo := 0) rfl (by kernel_rfl) rfl) ?_
  refine rl_v rfl rfl rfl (ov_load rfl Try.underlying22 rfl rfl (by first | exact hO5.cellI 0 rfl _ (by omega) (by omega) | exact hO5.cellL 0 rfl rfl | exact hO5.cellI 1 rfl _ (by omega) (by omega) | exact hO5.cellL 1 rfl rfl | exact hO5.cellI 2 rfl _ (by omega) (by omega) | exact hO5.cellL 2 rfl rfl | exact hO5.cellI 3 rfl _ (by omega) (by omega) | exact hO5.cellL 3 rfl rfl | exact hO5.cellI 4 rfl _ (by omega) (by omega) | exact hO5.cellL 4 rfl rfl | exact hO5.cellI 5 rfl _ (by omega) (by omega) | exact hO5.cellL 5 rfl rfl)) ?_
  refine rl_v rfl rfl rfl (ov_fieldS rfl Try.underlying35 rfl (fo := 1) rfl (by kernel_rfl) rfl) ?_
  refine rl_v rfl rfl rfl (ov_load rfl Try.underlying23 rfl rfl (by first | exact hO5.cellI 0 rfl _ (by omega) (by omega) | exact hO5.cellL 0 rfl rfl | exact hO5.cellI 1 rfl _ (by omega) (by omega) | exact hO5.cellL 1 rfl rfl | exact hO5.cellI 2 rfl _ (by omega) (by omega) | exact hO5.cellL 2 rfl rfl | exact hO5.cellI 3 rfl _ (by omega) (by omega) | exact hO5.cellL 3 rfl rfl | exact hO5.cellI 4 rfl _ (by omega) (by omega) | exact hO5.cellL 4 rfl rfl | exact hO5.cellI 5 rfl _ (by omega) (by omega) | exact hO5.cellL 5 rfl rfl)) ?_
  refine rl_v rfl rfl rfl (ov_buildL rfl lay_37 rfl (us := [_, _]) rfl) ?_
  refine rl_ow rfl (ow_storeW rfl rfl (by kernel_rfl) hO5 0 rfl rfl (by rfl) rfl (by rfl)) ?_
  rintro _ w7 ⟨rfl, hO8, hs9⟩
  refine rl_nil ?_
  refine run_ret Try.func20 (resW Try.results20 rfl Try.underlying37 rfl (by kernel_rfl) hO8 0 rfl) ?_
  exact ⟨rfl, hO8.below⟩

theorem refOwes_any (ao : Option Addr) (n c : Nat) (D : Int → Int → Int) (w : World) (hv : Valid n D)
    (h : ITab w.heap.size w ao n (fun _ => n) (fun r c => .int .i64 (D r c))) :
    Calls Try.prog 27 #[.slice ao n c] w fun e w' => ∃ b, e = .returned (.slice (some ⟨b, 0, none⟩) n n) ∧ Own w.heap.size w w' [some (vch b 2 n (fun i => .int .i64 (ow n D i)))] := by
  obtain ⟨A, C, RB, RO, gb, go, hga, hrow, hra, hel, _⟩ := h.open
  have hle := hv.le
  refine calls_of_run (F := [(0, _)]) Try.func27 rfl Try.ntmps27 rfl rfl ?_
  have hO0 := Own.init w
  refine run_seq ?_
  refine run_region ?_
  refine rl_v rfl rfl rfl (ov_assign rfl rfl) ?_
  refine rl_nil ?_
  refine run_seq ?_
  refine run_region ?_
  refine rl_v rfl rfl rfl (ov_move rfl rfl) ?_
  refine rl_v rfl rfl rfl (ov_len rfl Try.underlying22 rfl) ?_
  refine rl_make (n) rfl rfl rfl rfl Try.underlying23 info_2 rfl hO0 rfl rfl (by first | rfl | omega) (by first | rfl | omega) ⟨by omega, by omega⟩ (fun b w1 hO2 hs3 => ?_)
  refine rl_v rfl rfl rfl (ov_assign rfl rfl) ?_
  refine rl_nil ?_
  refine run_seq ?_
  refine run_seq ?_
  refine run_region ?_
  refine rl_v rfl rfl rfl (ov_assign rfl rfl) ?_
  refine rl_nil ?_
  refine run_block ?_
  refine Run.keep [0, 3, 4] (F' := [(0, _), (3, _), (4, _)]) rfl ?_
  refine run_loop2 (fun (k : Int) (g : Int → Int) => [(4, .int .i64 k)]) [0, 3] (fun (k : Int) (g : Int → Int) (w4 : World) => 0 ≤ k ∧ k ≤ n ∧ (∀ i : Int, 0 ≤ i → i < n → g i = if i < k then ow n D i else 0) ∧ Own w.heap.size w w4 [some (vch b 2 n (fun i => .int .i64 (g i)))]) (fun (k : Int) (g : Int → Int) => ((n : Int) - k).toNat) (0) (fun _ => 0) ?_ (And.intro (by first | with_reducible rfl | exact slot_int rfl (by first | omega) | rfl) (And.intro rfl (And.intro rfl trivial))) ?_
  · exact ⟨by omega, by omega, fun i i0 i1 => by rw [if_neg (by omega)], hO2⟩
  intro k g w4 hIw4 ih5
  obtain ⟨hk0, hk1, hg, hO⟩ := hIw4
  show Run _ _ _ _ [(4, _), (0, _), (3, _)] _ _
  refine run_seq ?_
  refine run_seq ?_
  refine run_region ?_
  refine rl_v rfl rfl rfl (ov_move rfl rfl) ?_
  refine rl_v rfl rfl rfl (ov_move rfl rfl) ?_
  refine rl_v rfl rfl rfl (ov_len rfl Try.underlying22 rfl) ?_
  refine rl_v rfl rfl rfl (ov_lss rfl rfl rfl) ?_
  refine rl_nil ?_
  first | refine run_cond_dec rfl (fun h1 => ?_) (fun h1 => ?_) | refine run_cond rfl (fun h1 => ?_) (fun h1 => ?_)
  · refine run_skip ?_
    refine run_seq ?_
    refine run_block ?_
    refine run_seq ?_
    refine run_region ?_
    refine rl_v rfl rfl rfl (ov_assign rfl rfl) ?_
    refine rl_nil ?_
    refine run_block ?_
    refine Run.keep [0, 3, 4, 5] (F' := [(0, _), (3, _), (4, _), (5, _)]) rfl ?_
    refine run_loop2 (fun (j : Int) (g2 : Int → Int) => [(5, .int .i64 j)]) [0, 3, 4] (fun (j : Int) (g2 : Int → Int) (w6 : World) => 0 ≤ j ∧ j ≤ n ∧ (∀ i : Int, 0 ≤ i → i < n → g2 i = if i < k then ow n D i else if i = k then sm (D k) j else 0) ∧ Own w.heap.size w w6 [some (vch b 2 n (fun i => .int .i64 (g2 i)))]) (fun (j : Int) (g2 : Int → Int) => ((n : Int) - j).toNat) (0) (g) ?_ (And.intro (by first | with_reducible rfl | exact slot_int rfl (by first | omega) | rfl) (And.intro rfl (And.intro rfl (And.intro rfl trivial)))) ?_
    · exact ⟨by omega, by omega, fun i i0 i1 => by rw [hg i i0 i1, sm_zero]; split; rfl; (split <;> rfl), hO⟩
    intro j g2 w6 hIw6 ih7
    obtain ⟨hj0, hj1, hg2, hO2⟩ := hIw6
    show Run _ _ _ _ [(5, _), (0, _), (3, _), (4, _)] _ _
    refine run_seq ?_
    refine run_seq ?_
    refine run_region ?_
    refine rl_v rfl rfl rfl (ov_move rfl rfl) ?_
    refine rl_v rfl rfl rfl (ov_move rfl rfl) ?_
    refine rl_v rfl rfl rfl (ov_len rfl Try.underlying22 rfl) ?_
    refine rl_v rfl rfl rfl (ov_lss rfl rfl rfl) ?_
    refine rl_nil ?_
    first | refine run_cond_dec rfl (fun h2 => ?_) (fun h2 => ?_) | refine run_cond rfl (fun h2 => ?_) (fun h2 => ?_)
    · have hgk := hg2 k hk0 h1
      rw [if_neg (Int.lt_irrefl k), if_pos rfl] at hgk
      have hs0 : 0 ≤ sm (D k) j := sm_nonneg fun i _ _ => hv.lo k i
      have hs1 : sm (D k) j ≤ j * 1000000 := sm_bound _ hj0 fun i _ _ => hv.hi k i
      have hd0 := hv.lo k j
      have hd1 := hv.hi k j
      refine run_skip ?_
      refine run_seq ?_
      refine run_block ?_
      refine run_tail 15 mixed (by kernel_rfl) ?_
      have hO9 := hO2.drew
      generalize World.drew w6 = w8 at hO9 ⊢
      refine rt_v rfl rfl rfl (ov_move rfl rfl) ?_
      refine rt_v rfl rfl rfl (ov_move rfl rfl) ?_
      refine rt_v rfl rfl rfl (ov_move rfl rfl) ?_
      refine rt_v rfl rfl rfl (ov_move rfl rfl) ?_
      refine rt_v rfl rfl rfl (ov_index1 rfl Try.underlying23 (by kernel_rfl) rfl rfl ⟨by omega, by omega⟩ (by first | rfl | exact hga (by omega) | exact hra _ (by omega) (by omega) (by omega))) ?_
      refine rt_v rfl rfl rfl (ov_load rfl Try.underlying2 rfl rfl (by first | exact hrow _ hO9.below _ (by omega) (by omega) | exact hel _ hO9.below _ (by omega) (by omega) _ (by omega) (by omega) | exact hO9.cellI 0 rfl _ (by omega) (by omega) | exact hO9.cellL 0 rfl rfl | exact hO9.cellI 1 rfl _ (by omega) (by omega) | exact hO9.cellL 1 rfl rfl | exact hO9.cellI 2 rfl _ (by omega) (by omega) | exact hO9.cellL 2 rfl rfl | exact hO9.cellI 3 rfl _ (by omega) (by omega) | exact hO9.cellL 3 rfl rfl | exact hO9.cellI 4 rfl _ (by omega) (by omega) | exact hO9.cellL 4 rfl rfl | exact hO9.cellI 5 rfl _ (by omega) (by omega) | exact hO9.cellL 5 rfl rfl)) ?_
      refine rt_v rfl rfl rfl (ov_move rfl rfl) ?_
      refine rt_v rfl rfl rfl (ov_move rfl rfl) ?_
      refine rt_v rfl rfl rfl (ov_index1 rfl Try.underlying22 (by kernel_rfl) rfl rfl ⟨by omega, by omega⟩ (by first | rfl | exact hga (by omega) | exact hra _ (by omega) (by omega) (by omega))) ?_
      refine rt_v rfl rfl rfl (ov_load rfl Try.underlying23 rfl rfl (by first | exact hrow _ hO9.below _ (by omega) (by omega) | exact hel _ hO9.below _ (by omega) (by omega) _ (by omega) (by omega) | exact hO9.cellI 0 rfl _ (by omega) (by omega) | exact hO9.cellL 0 rfl rfl | exact hO9.cellI 1 rfl _ (by omega) (by omega) | exact hO9.cellL 1 rfl rfl | exact hO9.cellI 2 rfl _ (by omega) (by omega) | exact hO9.cellL 2 rfl rfl | exact hO9.cellI 3 rfl _ (by omega) (by omega) | exact hO9.cellL 3 rfl rfl | exact hO9.cellI 4 rfl _ (by omega) (by omega) | exact hO9.cellL 4 rfl rfl | exact hO9.cellI 5 rfl _ (by omega) (by omega) | exact hO9.cellL 5 rfl rfl)) ?_
      refine rt_v rfl rfl rfl (ov_move rfl rfl) ?_
      refine rt_v rfl rfl rfl (ov_index1 rfl Try.underlying23 (by kernel_rfl) rfl rfl ⟨by omega, by omega⟩ (by first | rfl | exact hga (by omega) | exact hra _ (by omega) (by omega) (by omega))) ?_
      refine rt_v rfl rfl rfl (ov_load rfl Try.underlying2 rfl rfl (by first | exact hrow _ hO9.below _ (by omega) (by omega) | exact hel _ hO9.below _ (by omega) (by omega) _ (by omega) (by omega) | exact hO9.cellI 0 rfl _ (by omega) (by omega) | exact hO9.cellL 0 rfl rfl | exact hO9.cellI 1 rfl _ (by omega) (by omega) | exact hO9.cellL 1 rfl rfl | exact hO9.cellI 2 rfl _ (by omega) (by omega) | exact hO9.cellL 2 rfl rfl | exact hO9.cellI 3 rfl _ (by omega) (by omega) | exact hO9.cellL 3 rfl rfl | exact hO9.cellI 4 rfl _ (by omega) (by omega) | exact hO9.cellL 4 rfl rfl | exact hO9.cellI 5 rfl _ (by omega) (by omega) | exact hO9.cellL 5 rfl rfl)) ?_
      refine rt_v rfl rfl rfl (ov_add rfl rfl rfl (by omega)) ?_
      refine rt_v rfl rfl rfl (ov_index1 rfl Try.underlying23 (by kernel_rfl) rfl rfl ⟨by omega, by omega⟩ (by first | rfl | exact hga (by omega) | exact hra _ (by omega) (by omega) (by omega))) ?_
      refine rt_nil ?_
      refine rl_ow rfl (ow_storeI rfl rfl (by kernel_rfl) hO9 0 rfl rfl ⟨by omega, by omega⟩ rfl) ?_
      rintro _ w10 ⟨rfl, hO11, hs12⟩
      refine rl_nil ?_
      refine run_inBlock ?_
      refine run_region ?_
      refine rl_v rfl rfl rfl (ov_move rfl rfl) ?_
      refine rl_v rfl rfl rfl (ov_add rfl rfl rfl (by omega)) ?_
      refine rl_v rfl rfl rfl (ov_assign rfl rfl) ?_
      refine rl_nil ?_
      refine Run.use (ih7 (j + 1) (upd g2 k (g2 k + D k j)) _ ?_ ?_) (And.intro (by first | with_reducible rfl | exact slot_int rfl (by first | omega) | rfl) (And.intro rfl (And.intro rfl (And.intro rfl trivial))))
      · first | omega | (dsimp only; omega)
      · exact ⟨by omega, by omega, fun i i0 i1 => by unfold upd; split; (rename_i e; rw [e, if_neg (Int.lt_irrefl k), sm_succ _ hj0, hgk]); (rename_i e; rw [hg2 i i0 i1, if_neg e]), hO11⟩
    · obtain rfl : j = n := by omega
      refine run_exit rfl ?_
      refine run_inBlock ?_
      refine run_region ?_
      refine rl_v rfl rfl rfl (ov_move rfl rfl) ?_
      refine rl_v rfl rfl rfl (ov_add rfl rfl rfl (by omega)) ?_
      refine rl_v rfl rfl rfl (ov_assign rfl rfl) ?_
      refine rl_nil ?_
      refine Run.use (ih5 (k + 1) (g2) _ ?_ ?_) (And.intro (by first | with_reducible rfl | exact slot_int rfl (by first | omega) | rfl) (And.intro rfl (And.intro rfl trivial)))
      · first | omega | (dsimp only; omega)
      · exact ⟨by omega, by omega, fun i i0 i1 => by rw [hg2 i i0 i1]; by_cases e : i = k; (subst e; rw [if_neg (Int.lt_irrefl i), if_pos rfl, if_pos (by omega)]; rfl); (rw [if_neg e]; split <;> split <;> first | rfl | omega), hO2⟩
  · refine run_exit rfl ?_
    refine run_seq ?_
    refine run_region ?_
    refine rl_v rfl rfl rfl (ov_move rfl rfl) ?_
    refine rl_v rfl rfl rfl (ov_assign rfl rfl) ?_
    refine rl_nil ?_
    refine run_ret Try.func27 (res1 Try.results27 rfl) ?_
    exact ⟨b, rfl, hO.congrI 0 rfl (fun i i0 i1 => by rw [hg i i0 i1, if_pos (by omega)])⟩
end Go.Proofs.Ytiambddcpflkhaa
