/- SettleEnds: the walk. -/
import Derived.Test.YteagflekbbchhaaSfR
import Derived.Test.YteagflekbbchhaaSfO
set_option maxRecDepth 100000
namespace Go.Proofs.Yteagflekbbchhaa
open Go.RowKit Go.Proofs

theorem ov_eqlB {P : Program} {N : Nat} {o : Oper} {F : Fr} {w : World} {T U : TypeId} {x y : Operand} {a b : Bool} (ho : o.op = .binOp .eql T x y U) (hT : P.underlying T = some .bool) (hx : Fr.ev F x = some (.bool a)) (hy : Fr.ev F y = some (.bool b)) : OpV P N o F w (.bool (decide (a = b))) := by
  intro r hr
  unfold execOp
  have h1 := run_equal_bool (P := P) w T a b hT
  have e : (a == b) = decide (a = b) := by cases a <;> cases b <;> rfl
  simp only [ho, hr.ev hx, hr.ev hy, Sem.run_bind, eqGuard]
  simp [binOp, h1, Result.andThen, e]
theorem ov_neqB {P : Program} {N : Nat} {o : Oper} {F : Fr} {w : World} {T U : TypeId} {x y : Operand} {a b : Bool} (ho : o.op = .binOp .neq T x y U) (hT : P.underlying T = some .bool) (hx : Fr.ev F x = some (.bool a)) (hy : Fr.ev F y = some (.bool b)) : OpV P N o F w (.bool (decide (a ≠ b))) := by
  intro r hr
  unfold execOp
  have h1 := run_equal_bool (P := P) w T a b hT
  have e : (!(a == b)) = decide (a ≠ b) := by cases a <;> cases b <;> rfl
  simp only [ho, hr.ev hx, hr.ev hy, Sem.run_bind, eqGuard]
  simp [binOp, h1, Result.andThen, e]
theorem cd_done {X : MW} (h : Inv X) (hp : NoPrep X) {d : Int} (h1 : 1 ≤ d) (h2 : d ≤ X.deals.length) (hc : Cd X d) {n : Int} (hn : n = 1 ∨ n = 2) : (X.lg n).state d = 2 := by
  have hd := h.dec d hc
  have hm : (1, d) ∈ (X.lg n).recs := by
    rcases hn with rfl | rfl
    · exact hd.1.1.mem
    · exact hd.1.2.mem
  have h3 := hd.2 n hn
  have hnp := hp n d hn h1 h2
  unfold Lg.state at hnp ⊢
  rw [if_neg h3] at hnp ⊢
  split
  · rfl
  · next q => rw [if_neg q, if_pos hm] at hnp; exact absurd rfl hnp
theorem done_cd {X : MW} (h : Inv X) {n d : Int} (hn : n = 1 ∨ n = 2) (hs : (X.lg n).state d = 2) : Cd X d := (h.done n d hn (state_2 hs)).cd
theorem held_zero {X : MW} (h : LInv X) (hG : Good X) (hp : NoPrep X) {n : Int} (hn : n = 1 ∨ n = 2) (i : Int) : X.held n i = 0 := by
  have := (accs_form hG (h n hn) (srec hG hn) i).2
  unfold MW.held
  rw [this]
  have z : sm (fun j => hld X n (X.lg n).recs (j + 1) i) X.deals.length = sm (fun _ => 0) X.deals.length := sm_congr fun j h0 h1 => by
    unfold hld
    rw [if_neg]
    rintro ⟨a, b, c, _⟩
    refine hp n (j + 1) hn (by omega) (by omega) ?_
    unfold Lg.state
    rw [if_neg c, if_neg b, if_pos a]
  rw [z, sm_const 0 (by omega)]
  simp
/-- What a long enough Heal leaves. -/
structure Ended (X Y : MW) : Prop where
  inv : Inv Y
  good : Good Y
  linv : LInv Y
  still : Still1 Y
  noprep : NoPrep Y
  step : Step X Y
  cfg : cfg Y = cfg X
theorem ended {X : MW} (h : Inv X) (hG : Good X) (hl : LInv X) {k : Nat} (hk : X.pat + 3 ≤ k) : Ended X (X.heal k) := by
  obtain ⟨j, rfl⟩ : ∃ j : Nat, k = X.pat.toNat + 3 + j := ⟨k - (X.pat.toNat + 3), by have := hG.pat; omega⟩
  have hp : X.wake.pat ≤ (X.pat.toNat : Int) := by rw [cfg_pat (cfg_wake X)]; omega
  obtain ⟨a, b⟩ := noPrep_pat (Calm.wake X) hG.wake hp j
  exact ⟨h.heal hG _, hG.heal _, hl.heal hG _, a, b, Step.heal hG _, cfg_heal X _⟩
theorem bupd {E : TypeId} {b n : Nat} {DF : Int → Bool} {d : Int} {v : Bool} : vch b E n (upd (fun i => Value.bool (DF i)) d (.bool v)) = vch b E n (fun i => .bool (upd DF d v i)) := by
  congr 1
  funext i
  unfold upd
  split <;> rfl

theorem settleEnds_any (m p : Int) (a1 a2 lo : Option Addr) (n1 n2 c1 c2 ln lc : Nat) (G1 G2 : Int → Int) (S : Acts) (w : World) (h1 : IAt w.heap.size w a1 n1 (fun i => iv (G1 i))) (h2 : IAt w.heap.size w a2 n2 (fun i => iv (G2 i))) (hl : SAt w.heap.size w lo 7 ln S.l) (hkp : ∀ i, S.kept i ≤ 9223372036854775807) :
    Calls Try.prog 7 #[.agg #[iv m, iv p, .slice a1 n1 c1, .slice a2 n2 c2], .slice lo ln lc] w fun e w' => e = .returned (.bool true) ∧ Below w.heap.size w w' := by
  obtain ⟨lb, loff, hla, hrow⟩ := hl.open (by decide)
  refine calls_of_run (F := [(0, _), (1, _)]) Try.func7 rfl Try.ntmps7 rfl rfl ?_
  refine run_seq ?_
  refine run_region ?_
  refine rl_ow rfl (ow_box _ rfl rfl rfl rfl rfl (Own.init w)) ?_
  rintro _ w1 ⟨b2, rfl, hO2, hs3⟩
  refine rl_v rfl rfl rfl (ov_assign rfl rfl) ?_
  refine rl_nil ?_
  refine run_seq ?_
  refine run_region ?_
  refine rl_v rfl rfl rfl (ov_loadW rfl Try.underlying24 rfl (by kernel_rfl) rfl hO2 0 rfl) ?_
  refine rl_call callable_13 rfl rfl rfl rfl rfl rfl (tame_any m p a1 a2 n1 n2 c1 c2 G1 G2 w.heap.size _ w w1 h1 h2 hO2) (fun e4 w5 hp6 => ?_)
  obtain ⟨mem, pat, f1, f2, v1, v2, k1, k2, rfl, hm, hp, hR1, hR2, ⟨hl1, hl2⟩, hf1, hf2, hOt⟩ := hp6
  refine ⟨_, rfl, ?_⟩
  obtain ⟨s1, z1, rfl⟩ := hR1.val
  obtain ⟨s2, z2, rfl⟩ := hR2.val
  refine rl_ow rfl (ow_alloc _ rfl rfl rfl zero_24 rfl hOt) ?_
  rintro _ w7 ⟨b5, rfl, hO8, hs9⟩
  refine rl_ow rfl (ow_storeW rfl rfl (by kernel_rfl) hO8 0 rfl rfl (by rfl) rfl (by rfl)) ?_
  rintro _ w10 ⟨rfl, hO11, hs12⟩
  refine rl_nil ?_
  refine run_seq ?_
  refine run_region ?_
  refine rl_v rfl rfl rfl (ov_loadW rfl Try.underlying24 rfl (by kernel_rfl) rfl hO11 0 rfl) ?_
  refine rl_call callable_15 rfl rfl rfl rfl rfl rfl (give_any mem pat s1 s2 f1.length f2.length z1 z2 w.heap.size _ w w10 hO11) (fun e13 w14 hp15 => ?_)
  obtain ⟨rfl, hOg⟩ := hp15
  refine ⟨_, rfl, ?_⟩
  refine rl_call callable_14 rfl rfl rfl rfl rfl rfl (newOk mem pat f1 f2 s1 s2 z1 z2 w.heap.size _ w w14 hOg (SrcI.of_row hR1 (k := 1) rfl) (SrcI.of_row hR2 (k := 2) rfl) (by omega) (by omega) hl1 hl2 (lt100 hf1) (lt100 hf2)) (fun e16 w17 hp18 => ?_)
  obtain ⟨A, rfl, hW⟩ := hp18
  refine ⟨_, rfl, ?_⟩
  refine rl_v rfl rfl rfl (ov_move rfl rfl) ?_
  refine rl_v rfl rfl rfl (ov_extract rfl rfl (by rfl)) ?_
  refine rl_v rfl rfl rfl (ov_extract rfl rfl (by rfl)) ?_
  refine rl_v rfl rfl rfl (ov_assign rfl rfl) ?_
  refine rl_v rfl rfl rfl (ov_assign rfl rfl) ?_
  refine rl_nil ?_
  refine run_seq ?_
  refine run_seq ?_
  refine run_region ?_
  refine rl_v rfl rfl rfl (ov_move rfl rfl) ?_
  refine rl_v rfl rfl rfl (ov_neq rfl rfl rfl) ?_
  refine rl_v rfl rfl rfl (ov_move rfl rfl) ?_
  first | refine rl_split_dec 36 rfl (fun g1 => ?_) (fun g1 => ?_) | refine rl_split 36 rfl (fun g1 => ?_) (fun g1 => ?_)
  · refine rl_gskip rfl rfl rfl rfl rfl rfl ?_
    refine rl_gskip rfl rfl rfl rfl rfl rfl ?_
    refine rl_v rfl rfl rfl (ov_pick_t rfl rfl rfl) ?_
    refine rl_nil ?_
    -- cond live ['1:l', '5:own', '6:w', '39:'], written []
    exfalso; exact g1 rfl
  · refine rl_gv rfl rfl rfl rfl rfl (ov_move rfl rfl) ?_
    refine rl_gv rfl rfl rfl rfl rfl (ov_ptrnil rfl Try.underlying27 rfl) ?_
    refine rl_v rfl rfl rfl (ov_pick_f rfl rfl rfl) ?_
    refine rl_nil ?_
    refine run_cond_f rfl ?_
    obtain ⟨RR, hRR⟩ : ∃ RR, RR = [k1, k2, some (lch b2 24 [iv m, iv p, .slice a1 n1 c1, .slice a2 n2 c2])] := ⟨_, rfl⟩
    replace hW : WAt w.heap.size w w17 A (MW.init mem pat f1 f2) [] (some (lch b5 24 [iv mem, iv pat, .slice s1 f1.length z1, .slice s2 f2.length z2]) :: RR) := by rw [hRR]; exact hW
    clear hRR
    refine run_skip ?_
    refine run_seq ?_
    refine run_seq ?_
    refine run_region ?_
    refine rl_v rfl rfl rfl (ov_assign rfl rfl) ?_
    refine rl_nil ?_
    refine run_block ?_
    refine Run.keep [1, 5, 6, 8] (F' := [(1, _), (5, _), (6, _), (8, _)]) rfl ?_
    refine run_loop2 (fun (i : Int) (X : MW) => [(8, .int .i64 i)]) [1, 5, 6] (fun (i : Int) (X : MW) (w20 : World) => 0 ≤ i ∧ i ≤ 80 ∧ LawW mem f1 f2 (120000 * i.toNat) X ∧ X.pat = pat ∧ WAt w.heap.size w w20 A X [] (some (lch b5 24 [iv mem, iv pat, .slice s1 f1.length z1, .slice s2 f2.length z2]) :: RR)) (fun (i : Int) (X : MW) => (80 - i).toNat) (0) (MW.init mem pat f1 f2) ?_ (And.intro (by first | with_reducible rfl | exact slot_int rfl (by first | omega) | rfl) (And.intro rfl (And.intro rfl (And.intro rfl trivial)))) ?_
    · exact ⟨by omega, by omega, LawW.init hm (by omega) hl1 hl2 hf1 hf2, rfl, hW⟩
    intro i X w20 hIw20 ih21
    obtain ⟨hi0, hi1, hX, hpat, hW⟩ := hIw20
    show Run _ _ _ _ [(8, _), (1, _), (5, _), (6, _)] _ _
    refine run_seq ?_
    refine run_seq ?_
    refine run_region_join 47 (.bool (decide (i < ln ∧ i < 80))) [1, 5, 6, 8] (fun hk22 => ?_) ?_
    · refine rl_v rfl rfl rfl (ov_move rfl rfl) ?_
      refine rl_v rfl rfl rfl (ov_move rfl rfl) ?_
      refine rl_v rfl rfl rfl (ov_len rfl Try.underlying46 rfl) ?_
      refine rl_v rfl rfl rfl (ov_lss rfl rfl rfl) ?_
      refine rl_v rfl rfl rfl (ov_move rfl rfl) ?_
      first | refine rl_split_dec 44 rfl (fun q1 => ?_) (fun q1 => ?_) | refine rl_split 44 rfl (fun q1 => ?_) (fun q1 => ?_)
      · refine rl_gv rfl rfl rfl rfl rfl (ov_move rfl rfl) ?_
        refine rl_gv rfl rfl rfl rfl rfl (ov_lss rfl rfl rfl) ?_
        refine rl_v rfl rfl rfl (ov_pick_t rfl rfl rfl) ?_
        refine rl_nil (hk22 _ (jbd rfl (by omega)) (And.intro rfl (And.intro rfl (And.intro rfl (And.intro rfl trivial)))))
      · refine rl_gskip rfl rfl rfl rfl rfl rfl ?_
        refine rl_gskip rfl rfl rfl rfl rfl rfl ?_
        refine rl_v rfl rfl rfl (ov_pick_f rfl rfl rfl) ?_
        refine rl_nil (hk22 _ (jbf rfl (by omega)) (And.intro rfl (And.intro rfl (And.intro rfl (And.intro rfl trivial)))))
    · show Run _ _ _ _ [(47, _), (1, _), (5, _), (6, _), (8, _)] _ _
      first | refine run_cond_dec rfl (fun q => ?_) (fun qn => ?_) | refine run_cond rfl (fun q => ?_) (fun qn => ?_)
      · obtain ⟨Ka, Na, hOa, hKa, hPla⟩ := hW.pull
        have hphi := hX.phi
        refine run_skip ?_
        refine run_seq ?_
        refine run_block ?_
        refine run_region ?_
        refine rl_v rfl rfl rfl (ov_move rfl rfl) ?_
        refine rl_v rfl rfl rfl (ov_move rfl rfl) ?_
        refine rl_v rfl rfl rfl (ov_move rfl rfl) ?_
        refine rl_v rfl rfl rfl (ov_index rfl Try.underlying46 (by kernel_rfl) (s := 7) rfl rfl ⟨by omega, by omega⟩ (by first | rfl | exact (hla (by omega)))) ?_
        refine rl_v rfl rfl rfl (ov_loadE rfl Try.underlying51 rfl (by kernel_rfl) rfl ⟨by omega, by omega⟩ rfl (hrow _ hOa.below)) ?_
        refine rl_call callable_21 rfl rfl rfl rfl rfl rfl (act_any A X (S.kind i) (S.d i) (S.n i) (S.kept i) w.heap.size [] _ w w20 (hkp i) hX.good (by omega) hW) (fun e24 w25 hp26 => ?_)
        obtain ⟨rfl, hWa⟩ := hp26
        refine ⟨_, rfl, ?_⟩
        refine rl_nil ?_
        refine run_inBlock ?_
        refine run_region ?_
        refine rl_v rfl rfl rfl (ov_move rfl rfl) ?_
        refine rl_v rfl rfl rfl (ov_add rfl rfl rfl (by omega)) ?_
        refine rl_v rfl rfl rfl (ov_assign rfl rfl) ?_
        refine rl_nil ?_
        refine Run.use (ih21 (i + 1) (X.act (S.kind i) (S.d i) (S.n i) (S.kept i)) _ ?_ ?_) (And.intro (by first | with_reducible rfl | exact slot_int rfl (by first | omega) | rfl) (And.intro rfl (And.intro rfl (And.intro rfl trivial))))
        · first | omega | (dsimp only; omega)
        · exact ⟨by omega, by omega, by rw [show (i + 1).toNat = i.toNat + 1 by omega, Nat.mul_add]; exact (hX.act _ _ _ _ (hkp i)).1, (act_cfg X _ _ _ _).2.2.2.trans hpat, hWa⟩
      · have hphi := hX.phi
        have hdn := hX.good.dn
        refine run_exit rfl ?_
        refine run_seq ?_
        refine run_region ?_
        refine rl_v rfl rfl rfl (ov_move rfl rfl) ?_
        refine rl_call callable_22 rfl rfl rfl rfl rfl rfl (deals_any A X w.heap.size [] _ w w20 hX.good hW) (fun e27 w28 hp29 => ?_)
        obtain ⟨vd, cd, rfl, hRd, hWd⟩ := hp29
        refine ⟨_, rfl, ?_⟩
        obtain ⟨sd, zd, rfl⟩ := hRd.val
        obtain ⟨Kb, Nb, hOb, hKb, hPlb⟩ := hWd.drop.pull
        refine rl_v rfl rfl rfl (ov_len rfl Try.underlying52 rfl) ?_
        refine rl_v rfl rfl rfl (ov_assign rfl rfl) ?_
        refine rl_nil ?_
        refine run_seq ?_
        refine run_region ?_
        refine rl_v rfl rfl rfl (ov_move rfl rfl) ?_
        refine rl_v rfl rfl rfl (ov_add rfl rfl rfl (by omega)) ?_
        refine rl_ow rfl (ow_make (X.deals.length+1) rfl rfl rfl Try.underlying47 info_4 rfl hOb rfl rfl (by first | rfl | omega) (by first | rfl | omega) ⟨by omega, by omega⟩) ?_
        rintro _ w30 ⟨bd, rfl, hO31, hs32⟩
        have hW0 : WAt w.heap.size w w30 A X [] (some (vch bd 4 (X.deals.length + 1) (fun i => .bool ((fun _ => false) i))) :: some (lch b5 24 [iv mem, iv pat, .slice s1 f1.length z1, .slice s2 f2.length z2]) :: RR) := WAt.push2 hO31 hKb hPlb
        refine rl_v rfl rfl rfl (ov_assign rfl rfl) ?_
        refine rl_nil ?_
        refine run_seq ?_
        refine run_seq ?_
        refine run_region ?_
        refine rl_v rfl rfl rfl (ov_assign rfl rfl) ?_
        refine rl_nil ?_
        refine run_block ?_
        refine Run.keep [5, 6, 9, 10, 11] (F' := [(5, _), (6, _), (9, _), (10, _), (11, _)]) rfl ?_
        refine run_loop2 (fun (d : Int) (DF : Int → Bool) => [(11, .int .i64 d)]) [5, 6, 9, 10] (fun (d : Int) (DF : Int → Bool) (w33 : World) => 1 ≤ d ∧ d ≤ X.deals.length + 1 ∧ (∀ i, DF i = true → Sf X 0 (4, i)) ∧ WAt w.heap.size w w33 A X [] (some (vch bd 4 (X.deals.length + 1) (fun i => .bool (DF i))) :: some (lch b5 24 [iv mem, iv pat, .slice s1 f1.length z1, .slice s2 f2.length z2]) :: RR)) (fun (d : Int) (DF : Int → Bool) => ((X.deals.length : Int) + 1 - d).toNat) (1) (fun _ => false) ?_ (And.intro (by first | with_reducible rfl | exact slot_int rfl (by first | omega) | rfl) (And.intro rfl (And.intro rfl (And.intro rfl (And.intro rfl trivial))))) ?_
        · exact ⟨by omega, by omega, fun _ h => Bool.noConfusion h, hW0⟩
        intro d DF w33 hIw33 ih34
        obtain ⟨hd1, hd2, hDF, hWl⟩ := hIw33
        show Run _ _ _ _ [(11, _), (5, _), (6, _), (9, _), (10, _)] _ _
        refine run_seq ?_
        refine run_seq ?_
        refine run_region ?_
        refine rl_v rfl rfl rfl (ov_move rfl rfl) ?_
        refine rl_v rfl rfl rfl (ov_move rfl rfl) ?_
        refine rl_v rfl rfl rfl (ov_leq rfl rfl rfl) ?_
        refine rl_nil ?_
        first | refine run_cond_dec rfl (fun hdl => ?_) (fun hdl => ?_) | refine run_cond rfl (fun hdl => ?_) (fun hdl => ?_)
        · refine run_skip ?_
          refine run_seq ?_
          refine run_block ?_
          refine run_seq ?_
          refine run_region ?_
          refine rl_v rfl rfl rfl (ov_assign rfl rfl) ?_
          refine rl_nil ?_
          refine run_block ?_
          refine Run.keep [5, 6, 9, 10, 11, 12] (F' := [(5, _), (6, _), (9, _), (10, _), (11, _), (12, _)]) rfl ?_
          refine run_loop2 (fun (n : Int) (DF : Int → Bool) => [(12, .int .i64 n)]) [5, 6, 9, 10, 11] (fun (n : Int) (DF : Int → Bool) (w35 : World) => 1 ≤ n ∧ n ≤ 3 ∧ (∀ i, DF i = true → Sf X 0 (4, i)) ∧ WAt w.heap.size w w35 A X [] (some (vch bd 4 (X.deals.length + 1) (fun i => .bool (DF i))) :: some (lch b5 24 [iv mem, iv pat, .slice s1 f1.length z1, .slice s2 f2.length z2]) :: RR)) (fun (n : Int) (DF : Int → Bool) => (3 - n).toNat) (1) (DF) ?_ (And.intro (by first | with_reducible rfl | exact slot_int rfl (by first | omega) | rfl) (And.intro rfl (And.intro rfl (And.intro rfl (And.intro rfl (And.intro rfl trivial)))))) ?_
          · exact ⟨by omega, by omega, hDF, hWl⟩
          intro n DF w35 hIw35 ih36
          obtain ⟨hn1, hn2, hDF, hWn⟩ := hIw35
          show Run _ _ _ _ [(12, _), (5, _), (6, _), (9, _), (10, _), (11, _)] _ _
          refine run_seq ?_
          refine run_seq ?_
          refine run_region ?_
          refine rl_v rfl rfl rfl (ov_move rfl rfl) ?_
          refine rl_v rfl rfl rfl (ov_lss rfl rfl rfl) ?_
          refine rl_nil ?_
          first | refine run_cond_dec rfl (fun hn3 => ?_) (fun hn3n => ?_) | refine run_cond rfl (fun hn3 => ?_) (fun hn3n => ?_)
          · have hn : n = 1 ∨ n = 2 := by omega
            refine run_skip ?_
            refine run_seq ?_
            refine run_block ?_
            refine run_seq ?_
            refine run_region ?_
            refine rl_v rfl rfl rfl (ov_move rfl rfl) ?_
            refine rl_v rfl rfl rfl (ov_move rfl rfl) ?_
            refine rl_call callable_23 rfl rfl rfl rfl rfl rfl (log_any A X n w.heap.size [] _ w w35 (by omega) hWn) (fun e37 w38 hp39 => ?_)
            obtain ⟨rfl, hWo⟩ := hp39
            refine ⟨_, rfl, ?_⟩
            obtain ⟨Kc, Nc, hOc, hKc, hPlc⟩ := hWo.pull
            have hset : ∀ v : Bool, (v = true → Sf X 0 (4, d)) → ∀ i, upd DF d v i = true → Sf X 0 (4, i) := fun v hv i => by
              unfold upd
              split
              · next q => rw [q]; exact hv
              · exact hDF i
            refine rl_v rfl rfl rfl (ov_move rfl rfl) ?_
            refine rl_v rfl rfl rfl (ov_extract rfl rfl (by rfl)) ?_
            refine rl_v rfl rfl rfl (ov_extract rfl rfl (by rfl)) ?_
            refine rl_v rfl rfl rfl (ov_assign rfl rfl) ?_
            refine rl_v rfl rfl rfl (ov_assign rfl rfl) ?_
            refine rl_nil ?_
            refine run_region ?_
            refine rl_v rfl rfl rfl (ov_move rfl rfl) ?_
            refine rl_v rfl rfl rfl (ov_move rfl rfl) ?_
            refine rl_v rfl rfl rfl (ov_move rfl rfl) ?_
            refine rl_v rfl rfl rfl (ov_move rfl rfl) ?_
            refine rl_v rfl rfl rfl (ov_index1 rfl Try.underlying47 (by kernel_rfl) rfl rfl ⟨by omega, by omega⟩ rfl) ?_
            refine rl_v rfl rfl rfl (ov_load rfl Try.underlying4 rfl rfl (by first | exact hOc.cellI 0 rfl _ (by omega) (by omega))) ?_
            refine rl_v rfl rfl rfl (ov_move rfl rfl) ?_
            first | refine rl_split_dec 83 rfl (fun t1 => ?_) (fun t1 => ?_) | refine rl_split 83 rfl (fun t1 => ?_) (fun t1 => ?_)
            · refine rl_gskip rfl rfl rfl rfl rfl rfl ?_
              refine rl_gskip rfl rfl rfl rfl rfl rfl ?_
              refine rl_gskip rfl rfl rfl rfl rfl rfl ?_
              refine rl_gskip rfl rfl rfl rfl rfl rfl ?_
              refine rl_gundef rfl rfl rfl rfl rfl ?_
              refine rl_gundef rfl rfl rfl rfl rfl ?_
              refine rl_gundef rfl rfl rfl rfl rfl ?_
              refine rl_gundef rfl rfl rfl rfl rfl ?_
              refine rl_gundef rfl rfl rfl rfl rfl ?_
              refine rl_gskip rfl rfl rfl rfl rfl rfl ?_
              refine rl_v rfl rfl rfl (ov_pick_t rfl rfl rfl) ?_
              refine rl_v rfl rfl rfl (ov_index1 rfl Try.underlying47 (by kernel_rfl) rfl rfl ⟨by omega, by omega⟩ rfl) ?_
              refine rl_ow rfl (ow_store rfl rfl (by kernel_rfl) hOc 0 rfl rfl ⟨by omega, by omega⟩ rfl rfl) ?_
              rintro _ w41 ⟨rfl, hO42, hs43⟩
              refine rl_nil ?_
              refine run_inBlock ?_
              refine run_region ?_
              refine rl_v rfl rfl rfl (ov_move rfl rfl) ?_
              refine rl_v rfl rfl rfl (ov_add rfl rfl rfl (by omega)) ?_
              refine rl_v rfl rfl rfl (ov_assign rfl rfl) ?_
              refine rl_nil ?_
              refine Run.use (ih36 (n + 1) (upd DF d true) _ ?_ ?_) (And.intro (by first | with_reducible rfl | exact slot_int rfl (by first | omega) | rfl) (And.intro rfl (And.intro rfl (And.intro rfl (And.intro rfl (And.intro rfl trivial))))))
              · first | omega | (dsimp only; omega)
              · exact ⟨by omega, by omega, hset true (fun _ => hDF d t1), by rw [← bupd]; exact WAt.push hO42 hKc hPlc⟩
            · refine rl_gv rfl rfl rfl rfl rfl (ov_move rfl rfl) ?_
              refine rl_gv rfl rfl rfl rfl rfl (ov_move rfl rfl) ?_
              refine rl_gv rfl rfl rfl rfl rfl (ov_eql rfl rfl rfl) ?_
              refine rl_gv rfl rfl rfl rfl rfl (ov_move rfl rfl) ?_
              first | refine rl_split_dec 87 rfl (fun t2 => ?_) (fun t2 => ?_) | refine rl_split 87 rfl (fun t2 => ?_) (fun t2 => ?_)
              · refine rl_gv rfl rfl rfl rfl rfl (ov_move rfl rfl) ?_
                refine rl_gv rfl rfl rfl rfl rfl (ov_move rfl rfl) ?_
                refine rl_gv rfl rfl rfl rfl rfl (ov_move rfl rfl) ?_
                refine rl_gcall callable_19 rfl rfl rfl rfl rfl rfl rfl rfl (at_any A X n d w.heap.size [] _ w w38 hn hX.good hWo) (fun e45 w46 hp47 => ?_)
                obtain ⟨rfl, hWp⟩ := hp47
                refine ⟨_, rfl, ?_⟩
                obtain ⟨Kd, Nd, hOd, hKd, hPld⟩ := hWp.pull
                refine rl_gv rfl rfl rfl rfl rfl (ov_eql rfl rfl rfl) ?_
                refine rl_gv rfl rfl rfl rfl rfl (ov_pick_t rfl rfl rfl) ?_
                refine rl_v rfl rfl rfl (ov_pick_f rfl rfl rfl) ?_
                refine rl_v rfl rfl rfl (ov_index1 rfl Try.underlying47 (by kernel_rfl) rfl rfl ⟨by omega, by omega⟩ rfl) ?_
                refine rl_ow rfl (ow_store rfl rfl (by kernel_rfl) hOd 0 rfl rfl ⟨by omega, by omega⟩ rfl rfl) ?_
                rintro _ w48 ⟨rfl, hO49, hs50⟩
                refine rl_nil ?_
                refine run_inBlock ?_
                refine run_region ?_
                refine rl_v rfl rfl rfl (ov_move rfl rfl) ?_
                refine rl_v rfl rfl rfl (ov_add rfl rfl rfl (by omega)) ?_
                refine rl_v rfl rfl rfl (ov_assign rfl rfl) ?_
                refine rl_nil ?_
                refine Run.use (ih36 (n + 1) (upd DF d (decide ((X.lg n).state d = 2))) _ ?_ ?_) (And.intro (by first | with_reducible rfl | exact slot_int rfl (by first | omega) | rfl) (And.intro rfl (And.intro rfl (And.intro rfl (And.intro rfl (And.intro rfl trivial))))))
                · first | omega | (dsimp only; omega)
                · exact ⟨by omega, by omega, hset _ (fun hv => hX.inv.done n d hn (state_2 (of_decide_eq_true hv))), by rw [← bupd]; exact WAt.push hO49 hKd hPld⟩
              · refine rl_gskip rfl rfl rfl rfl rfl rfl ?_
                refine rl_gskip rfl rfl rfl rfl rfl rfl ?_
                refine rl_gskip rfl rfl rfl rfl rfl rfl ?_
                refine rl_gskip rfl rfl rfl rfl rfl rfl ?_
                refine rl_gskip rfl rfl rfl rfl rfl rfl ?_
                refine rl_gv rfl rfl rfl rfl rfl (ov_pick_f rfl rfl rfl) ?_
                refine rl_v rfl rfl rfl (ov_pick_f rfl rfl rfl) ?_
                refine rl_v rfl rfl rfl (ov_index1 rfl Try.underlying47 (by kernel_rfl) rfl rfl ⟨by omega, by omega⟩ rfl) ?_
                refine rl_ow rfl (ow_store rfl rfl (by kernel_rfl) hOc 0 rfl rfl ⟨by omega, by omega⟩ rfl rfl) ?_
                rintro _ w51 ⟨rfl, hO52, hs53⟩
                refine rl_nil ?_
                refine run_inBlock ?_
                refine run_region ?_
                refine rl_v rfl rfl rfl (ov_move rfl rfl) ?_
                refine rl_v rfl rfl rfl (ov_add rfl rfl rfl (by omega)) ?_
                refine rl_v rfl rfl rfl (ov_assign rfl rfl) ?_
                refine rl_nil ?_
                refine Run.use (ih36 (n + 1) (upd DF d false) _ ?_ ?_) (And.intro (by first | with_reducible rfl | exact slot_int rfl (by first | omega) | rfl) (And.intro rfl (And.intro rfl (And.intro rfl (And.intro rfl (And.intro rfl trivial))))))
                · first | omega | (dsimp only; omega)
                · exact ⟨by omega, by omega, hset false (fun h => Bool.noConfusion h), by rw [← bupd]; exact WAt.push hO52 hKc hPlc⟩
          · refine run_exit rfl ?_
            refine run_inBlock ?_
            refine run_region ?_
            refine rl_v rfl rfl rfl (ov_move rfl rfl) ?_
            refine rl_v rfl rfl rfl (ov_add rfl rfl rfl (by omega)) ?_
            refine rl_v rfl rfl rfl (ov_assign rfl rfl) ?_
            refine rl_nil ?_
            refine Run.use (ih34 (d + 1) (DF) _ ?_ ?_) (And.intro (by first | with_reducible rfl | exact slot_int rfl (by first | omega) | rfl) (And.intro rfl (And.intro rfl (And.intro rfl (And.intro rfl trivial)))))
            · first | omega | (dsimp only; omega)
            · exact ⟨by omega, by omega, hDF, hWn⟩
        · obtain ⟨Ke, Ne, hOe, hKe, hPle⟩ := hWl.pull2
          have hE := ended hX.inv hX.good hX.linv (k := (pat + 8).toNat) (by rw [hpat]; omega)
          refine run_exit rfl ?_
          refine run_seq ?_
          refine run_seq ?_
          refine run_region ?_
          refine rl_v rfl rfl rfl (ov_move rfl rfl) ?_
          refine rl_v rfl rfl rfl (ov_fieldS rfl Try.underlying24 rfl (fo := 1) rfl (by kernel_rfl) rfl) ?_
          refine rl_v rfl rfl rfl (ov_load rfl Try.underlying3 rfl rfl (by first | exact hOe.cellL 1 rfl (off := 1) rfl)) ?_
          refine rl_v rfl rfl rfl (ov_add rfl rfl rfl (by omega)) ?_
          refine rl_call callable_18 rfl rfl rfl rfl rfl rfl (heal_any A X (pat + 8) w.heap.size [] _ w w33 (by omega) hX.good (by omega) hWl) (fun e54 w55 hp56 => ?_)
          obtain ⟨rfl, hWh⟩ := hp56
          refine ⟨_, rfl, ?_⟩
          have hDY : ∀ i, DF i = true → Cd (X.heal (pat + 8).toNat) i := fun i hi => (hE.step.sf (.inl rfl) (hDF i hi)).cd
          have eD := cfg_deals hE.cfg
          generalize X.heal (pat + 8).toNat = Y at *
          refine rl_v rfl rfl rfl (ov_move rfl rfl) ?_
          refine rl_v rfl rfl rfl (ov_extract rfl rfl (by rfl)) ?_
          refine rl_v rfl rfl rfl (ov_extract rfl rfl (by rfl)) ?_
          refine rl_v rfl rfl rfl (ov_assign rfl rfl) ?_
          refine rl_v rfl rfl rfl (ov_assign rfl rfl) ?_
          refine rl_nil ?_
          refine run_seq ?_
          refine run_region ?_
          refine rl_v rfl rfl rfl (ov_move rfl rfl) ?_
          refine rl_v rfl rfl rfl (ov_neq rfl rfl rfl) ?_
          refine rl_nil ?_
          first | refine run_cond_dec rfl (fun g2 => ?_) (fun g2n => ?_) | refine run_cond rfl (fun g2 => ?_) (fun g2n => ?_)
          · exfalso; exact g2 rfl
          · refine run_skip ?_
            refine run_seq ?_
            refine run_seq ?_
            refine run_region ?_
            refine rl_v rfl rfl rfl (ov_assign rfl rfl) ?_
            refine rl_nil ?_
            refine run_block ?_
            refine Run.keep [6, 9, 10, 17] (F' := [(6, _), (9, _), (10, _), (17, _)]) rfl ?_
            refine run_loop1 (fun (d : Int) => [(17, .int .i64 d)]) [6, 9, 10] (fun (d : Int) (w57 : World) => 1 ≤ d ∧ d ≤ X.deals.length + 1 ∧ WAt w.heap.size w w57 A Y [] (some (vch bd 4 (X.deals.length + 1) (fun i => .bool (DF i))) :: some (lch b5 24 [iv mem, iv pat, .slice s1 f1.length z1, .slice s2 f2.length z2]) :: RR)) (fun (d : Int) => ((X.deals.length : Int) + 1 - d).toNat) (1) ?_ (And.intro (by first | with_reducible rfl | exact slot_int rfl (by first | omega) | rfl) (And.intro rfl (And.intro rfl (And.intro rfl trivial)))) ?_
            · exact ⟨by omega, by omega, hWh⟩
            intro d w57 hIw57 ih58
            obtain ⟨hd1, hd2, hWl⟩ := hIw57
            show Run _ _ _ _ [(17, _), (6, _), (9, _), (10, _)] _ _
            refine run_seq ?_
            refine run_seq ?_
            refine run_region ?_
            refine rl_v rfl rfl rfl (ov_move rfl rfl) ?_
            refine rl_v rfl rfl rfl (ov_move rfl rfl) ?_
            refine rl_v rfl rfl rfl (ov_leq rfl rfl rfl) ?_
            refine rl_nil ?_
            first | refine run_cond_dec rfl (fun hdl => ?_) (fun hdl => ?_) | refine run_cond rfl (fun hdl => ?_) (fun hdl => ?_)
            · refine run_skip ?_
              refine run_seq ?_
              refine run_block ?_
              refine run_seq ?_
              refine run_region ?_
              refine rl_v rfl rfl rfl (ov_move rfl rfl) ?_
              refine rl_v rfl rfl rfl (ov_move rfl rfl) ?_
              refine rl_call callable_19 rfl rfl rfl rfl rfl rfl (at_any A Y 1 d w.heap.size [] _ w w57 (.inl rfl) hE.good hWl) (fun e59 w60 hp61 => ?_)
              obtain ⟨rfl, hWa⟩ := hp61
              refine ⟨_, rfl, ?_⟩
              refine rl_v rfl rfl rfl (ov_move rfl rfl) ?_
              refine rl_v rfl rfl rfl (ov_move rfl rfl) ?_
              refine rl_call callable_19 rfl rfl rfl rfl rfl rfl (at_any A Y 2 d w.heap.size [] _ w w60 (.inr rfl) hE.good hWa) (fun e62 w63 hp64 => ?_)
              obtain ⟨rfl, hWb⟩ := hp64
              refine ⟨_, rfl, ?_⟩
              have np1 := hE.noprep 1 d (.inl rfl) hd1 (by rw [eD]; exact hdl)
              have np2 := hE.noprep 2 d (.inr rfl) hd1 (by rw [eD]; exact hdl)
              have c1 : (Y.lg 1).state d = 2 ↔ Cd Y d := ⟨done_cd hE.inv (.inl rfl), fun h => cd_done hE.inv hE.noprep hd1 (by rw [eD]; exact hdl) h (.inl rfl)⟩
              have c2 : (Y.lg 2).state d = 2 ↔ Cd Y d := ⟨done_cd hE.inv (.inr rfl), fun h => cd_done hE.inv hE.noprep hd1 (by rw [eD]; exact hdl) h (.inr rfl)⟩
              have c3 := hDY d
              obtain ⟨Kf, Nf, hOf, hKf, hPlf⟩ := hWb.pull
              generalize (Y.lg 1).state d = sa at *
              generalize (Y.lg 2).state d = sb at *
              refine rl_v rfl rfl rfl (ov_assign rfl rfl) ?_
              refine rl_v rfl rfl rfl (ov_assign rfl rfl) ?_
              refine rl_nil ?_
              refine run_seq ?_
              refine run_region_join 139 (.bool (decide (False))) [6, 9, 10, 17] (fun hk65 => ?_) ?_
              · refine rl_v rfl rfl rfl (ov_move rfl rfl) ?_
                refine rl_v rfl rfl rfl (ov_eql rfl rfl rfl) ?_
                refine rl_v rfl rfl rfl (ov_move rfl rfl) ?_
                refine rl_v rfl rfl rfl (ov_eql rfl rfl rfl) ?_
                refine rl_v rfl rfl rfl (ov_neqB rfl Try.underlying4 rfl rfl) ?_
                refine rl_v rfl rfl rfl (ov_move rfl rfl) ?_
                first | refine rl_split_dec 122 rfl (fun r1 => ?_) (fun r1 => ?_) | refine rl_split 122 rfl (fun r1 => ?_) (fun r1 => ?_)
                · refine rl_gskip rfl rfl rfl rfl rfl rfl ?_
                  refine rl_gskip rfl rfl rfl rfl rfl rfl ?_
                  refine rl_v rfl rfl rfl (ov_pick_t rfl rfl rfl) ?_
                  refine rl_v rfl rfl rfl (ov_move rfl rfl) ?_
                  refine rl_gskip rfl rfl rfl rfl rfl rfl ?_
                  refine rl_gskip rfl rfl rfl rfl rfl rfl ?_
                  refine rl_v rfl rfl rfl (ov_pick_t rfl rfl rfl) ?_
                  refine rl_v rfl rfl rfl (ov_move rfl rfl) ?_
                  refine rl_gskip rfl rfl rfl rfl rfl rfl ?_
                  refine rl_gskip rfl rfl rfl rfl rfl rfl ?_
                  refine rl_gskip rfl rfl rfl rfl rfl rfl ?_
                  refine rl_gskip rfl rfl rfl rfl rfl rfl ?_
                  refine rl_gskip rfl rfl rfl rfl rfl rfl ?_
                  refine rl_gundef rfl rfl rfl rfl rfl ?_
                  refine rl_gundef rfl rfl rfl rfl rfl ?_
                  refine rl_gskip rfl rfl rfl rfl rfl rfl ?_
                  refine rl_v rfl rfl rfl (ov_pick_t rfl rfl rfl) ?_
                  refine rl_nil (hk65 _ (jbt rfl (by simp_all)) (And.intro rfl (And.intro rfl (And.intro rfl (And.intro rfl trivial)))))
                · refine rl_gv rfl rfl rfl rfl rfl (ov_move rfl rfl) ?_
                  refine rl_gv rfl rfl rfl rfl rfl (ov_eql rfl rfl rfl) ?_
                  refine rl_v rfl rfl rfl (ov_pick_f rfl rfl rfl) ?_
                  refine rl_v rfl rfl rfl (ov_move rfl rfl) ?_
                  first | refine rl_split_dec 126 rfl (fun r2 => ?_) (fun r2 => ?_) | refine rl_split 126 rfl (fun r2 => ?_) (fun r2 => ?_)
                  · refine rl_gskip rfl rfl rfl rfl rfl rfl ?_
                    refine rl_gskip rfl rfl rfl rfl rfl rfl ?_
                    refine rl_v rfl rfl rfl (ov_pick_t rfl rfl rfl) ?_
                    refine rl_v rfl rfl rfl (ov_move rfl rfl) ?_
                    refine rl_gskip rfl rfl rfl rfl rfl rfl ?_
                    refine rl_gskip rfl rfl rfl rfl rfl rfl ?_
                    refine rl_gskip rfl rfl rfl rfl rfl rfl ?_
                    refine rl_gskip rfl rfl rfl rfl rfl rfl ?_
                    refine rl_gskip rfl rfl rfl rfl rfl rfl ?_
                    refine rl_gundef rfl rfl rfl rfl rfl ?_
                    refine rl_gundef rfl rfl rfl rfl rfl ?_
                    refine rl_gskip rfl rfl rfl rfl rfl rfl ?_
                    refine rl_v rfl rfl rfl (ov_pick_t rfl rfl rfl) ?_
                    refine rl_nil (hk65 _ (jbt rfl (by simp_all)) (And.intro rfl (And.intro rfl (And.intro rfl (And.intro rfl trivial)))))
                  · refine rl_gv rfl rfl rfl rfl rfl (ov_move rfl rfl) ?_
                    refine rl_gv rfl rfl rfl rfl rfl (ov_eql rfl rfl rfl) ?_
                    refine rl_v rfl rfl rfl (ov_pick_f rfl rfl rfl) ?_
                    refine rl_v rfl rfl rfl (ov_move rfl rfl) ?_
                    first | refine rl_split_dec 130 rfl (fun r3 => ?_) (fun r3 => ?_) | refine rl_split 130 rfl (fun r3 => ?_) (fun r3 => ?_)
                    · refine rl_gskip rfl rfl rfl rfl rfl rfl ?_
                      refine rl_gskip rfl rfl rfl rfl rfl rfl ?_
                      refine rl_gskip rfl rfl rfl rfl rfl rfl ?_
                      refine rl_gskip rfl rfl rfl rfl rfl rfl ?_
                      refine rl_gskip rfl rfl rfl rfl rfl rfl ?_
                      refine rl_gundef rfl rfl rfl rfl rfl ?_
                      refine rl_gundef rfl rfl rfl rfl rfl ?_
                      refine rl_gskip rfl rfl rfl rfl rfl rfl ?_
                      refine rl_v rfl rfl rfl (ov_pick_t rfl rfl rfl) ?_
                      refine rl_nil (hk65 _ (jbt rfl (by simp_all)) (And.intro rfl (And.intro rfl (And.intro rfl (And.intro rfl trivial)))))
                    · refine rl_gv rfl rfl rfl rfl rfl (ov_move rfl rfl) ?_
                      refine rl_gv rfl rfl rfl rfl rfl (ov_move rfl rfl) ?_
                      refine rl_gv rfl rfl rfl rfl rfl (ov_index1 rfl Try.underlying47 (by kernel_rfl) rfl rfl ⟨by omega, by omega⟩ rfl) ?_
                      refine rl_gv rfl rfl rfl rfl rfl (ov_load rfl Try.underlying4 rfl rfl (by first | exact hOf.cellI 0 rfl _ (by omega) (by omega))) ?_
                      refine rl_gv rfl rfl rfl rfl rfl (ov_move rfl rfl) ?_
                      first | refine rl_split_dec 135 rfl (fun r4 => ?_) (fun r4 => ?_) | refine rl_split 135 rfl (fun r4 => ?_) (fun r4 => ?_)
                      · refine rl_gv rfl rfl rfl rfl rfl (ov_move rfl rfl) ?_
                        refine rl_gv rfl rfl rfl rfl rfl (ov_neq rfl rfl rfl) ?_
                        refine rl_gv rfl rfl rfl rfl rfl (ov_pick_t rfl rfl rfl) ?_
                        refine rl_v rfl rfl rfl (ov_pick_f rfl rfl rfl) ?_
                        refine rl_nil (hk65 _ (jbd rfl (by simp_all)) (And.intro rfl (And.intro rfl (And.intro rfl (And.intro rfl trivial)))))
                      · refine rl_gskip rfl rfl rfl rfl rfl rfl ?_
                        refine rl_gskip rfl rfl rfl rfl rfl rfl ?_
                        refine rl_gv rfl rfl rfl rfl rfl (ov_pick_f rfl rfl rfl) ?_
                        refine rl_v rfl rfl rfl (ov_pick_f rfl rfl rfl) ?_
                        refine rl_nil (hk65 _ (jbf rfl (by simp_all)) (And.intro rfl (And.intro rfl (And.intro rfl (And.intro rfl trivial)))))
              · show Run _ _ _ _ [(139, _), (6, _), (9, _), (10, _), (17, _)] _ _
                first | refine run_cond_dec rfl (fun bad => ?_) (fun ok => ?_) | refine run_cond rfl (fun bad => ?_) (fun ok => ?_)
                · exfalso; exact bad
                · refine run_skip ?_
                  refine run_inBlock ?_
                  refine run_region ?_
                  refine rl_v rfl rfl rfl (ov_move rfl rfl) ?_
                  refine rl_v rfl rfl rfl (ov_add rfl rfl rfl (by omega)) ?_
                  refine rl_v rfl rfl rfl (ov_assign rfl rfl) ?_
                  refine rl_nil ?_
                  refine Run.use (ih58 (d + 1) _ ?_ ?_) (And.intro (by first | with_reducible rfl | exact slot_int rfl (by first | omega) | rfl) (And.intro rfl (And.intro rfl (And.intro rfl trivial))))
                  · first | omega | (dsimp only; omega)
                  · exact ⟨by omega, by omega, hWb⟩
            · refine run_exit rfl ?_
              refine run_seq ?_
              refine run_seq ?_
              refine run_region ?_
              refine rl_v rfl rfl rfl (ov_assign rfl rfl) ?_
              refine rl_nil ?_
              refine run_block ?_
              refine Run.keep [6, 20] (F' := [(6, _), (20, _)]) rfl ?_
              refine run_loop1 (fun (n : Int) => [(20, .int .i64 n)]) [6] (fun (n : Int) (w70 : World) => 0 ≤ n ∧ n ≤ 3 ∧ WAt w.heap.size w w70 A Y [] (some (vch bd 4 (X.deals.length + 1) (fun i => .bool (DF i))) :: some (lch b5 24 [iv mem, iv pat, .slice s1 f1.length z1, .slice s2 f2.length z2]) :: RR)) (fun (n : Int) => (3 - n).toNat) (0) ?_ (And.intro (by first | with_reducible rfl | exact slot_int rfl (by first | omega) | rfl) (And.intro rfl trivial)) ?_
              · exact ⟨by omega, by omega, hWl⟩
              intro n w70 hIw70 ih71
              obtain ⟨hn0, hn1, hWn⟩ := hIw70
              show Run _ _ _ _ [(20, _), (6, _)] _ _
              refine run_seq ?_
              refine run_seq ?_
              refine run_region ?_
              refine rl_v rfl rfl rfl (ov_move rfl rfl) ?_
              refine rl_v rfl rfl rfl (ov_lss rfl rfl rfl) ?_
              refine rl_nil ?_
              first | refine run_cond_dec rfl (fun hn3 => ?_) (fun hn3n => ?_) | refine run_cond rfl (fun hn3 => ?_) (fun hn3n => ?_)
              · have hn : N3 n := by unfold N3; omega
                refine run_skip ?_
                refine run_seq ?_
                refine run_block ?_
                refine run_seq ?_
                refine run_region ?_
                refine rl_v rfl rfl rfl (ov_move rfl rfl) ?_
                refine rl_v rfl rfl rfl (ov_move rfl rfl) ?_
                refine rl_call callable_30 rfl rfl rfl rfl rfl rfl (up_any A Y n w.heap.size [] _ w w70 hn hWn) (fun e72 w73 hp74 => ?_)
                obtain ⟨rfl, hWu⟩ := hp74
                refine ⟨_, rfl, ?_⟩
                refine rl_v rfl rfl rfl (ov_not rfl rfl) ?_
                refine rl_nil ?_
                first | refine run_cond_dec rfl (fun bad => ?_) (fun ok => ?_) | refine run_cond rfl (fun bad => ?_) (fun ok => ?_)
                · exfalso; rw [(hE.still.calm n hn).1] at bad; exact Bool.noConfusion bad
                · refine run_skip ?_
                  refine run_inBlock ?_
                  refine run_region ?_
                  refine rl_v rfl rfl rfl (ov_move rfl rfl) ?_
                  refine rl_v rfl rfl rfl (ov_add rfl rfl rfl (by omega)) ?_
                  refine rl_v rfl rfl rfl (ov_assign rfl rfl) ?_
                  refine rl_nil ?_
                  refine Run.use (ih71 (n + 1) _ ?_ ?_) (And.intro (by first | with_reducible rfl | exact slot_int rfl (by first | omega) | rfl) (And.intro rfl trivial))
                  · first | omega | (dsimp only; omega)
                  · exact ⟨by omega, by omega, hWu⟩
              · refine run_exit rfl ?_
                refine run_seq ?_
                refine run_seq ?_
                refine run_region ?_
                refine rl_v rfl rfl rfl (ov_assign rfl rfl) ?_
                refine rl_nil ?_
                refine run_block ?_
                refine Run.keep [6, 21] (F' := [(6, _), (21, _)]) rfl ?_
                refine run_loop1 (fun (n : Int) => [(21, .int .i64 n)]) [6] (fun (n : Int) (w75 : World) => 1 ≤ n ∧ n ≤ 3 ∧ WAt w.heap.size w w75 A Y [] (some (vch bd 4 (X.deals.length + 1) (fun i => .bool (DF i))) :: some (lch b5 24 [iv mem, iv pat, .slice s1 f1.length z1, .slice s2 f2.length z2]) :: RR)) (fun (n : Int) => (3 - n).toNat) (1) ?_ (And.intro (by first | with_reducible rfl | exact slot_int rfl (by first | omega) | rfl) (And.intro rfl trivial)) ?_
                · exact ⟨by omega, by omega, hWn⟩
                intro n w75 hIw75 ih76
                obtain ⟨hn0, hn1, hWm⟩ := hIw75
                show Run _ _ _ _ [(21, _), (6, _)] _ _
                refine run_seq ?_
                refine run_seq ?_
                refine run_region ?_
                refine rl_v rfl rfl rfl (ov_move rfl rfl) ?_
                refine rl_v rfl rfl rfl (ov_lss rfl rfl rfl) ?_
                refine rl_nil ?_
                first | refine run_cond_dec rfl (fun hn3 => ?_) (fun hn3n => ?_) | refine run_cond rfl (fun hn3 => ?_) (fun hn3n => ?_)
                · have hn : n = 1 ∨ n = 2 := by omega
                  have hfl := hE.good.fl n hn
                  have hmm := hE.good.mem
                  refine run_skip ?_
                  refine run_seq ?_
                  refine run_block ?_
                  refine run_seq ?_
                  refine run_region ?_
                  refine rl_v rfl rfl rfl (ov_move rfl rfl) ?_
                  refine rl_v rfl rfl rfl (ov_move rfl rfl) ?_
                  refine rl_call callable_24 rfl rfl rfl rfl rfl rfl (balances_any A Y n w.heap.size [] _ w w75 hn hE.good hWm) (fun e77 w78 hp79 => ?_)
                  obtain ⟨vb, cb, rfl, hRb, hWx⟩ := hp79
                  refine ⟨_, rfl, ?_⟩
                  obtain ⟨sb, zb, rfl⟩ := hRb.val
                  refine rl_v rfl rfl rfl (ov_move rfl rfl) ?_
                  refine rl_v rfl rfl rfl (ov_extract rfl rfl (by rfl)) ?_
                  refine rl_v rfl rfl rfl (ov_extract rfl rfl (by rfl)) ?_
                  refine rl_v rfl rfl rfl (ov_assign rfl rfl) ?_
                  refine rl_v rfl rfl rfl (ov_assign rfl rfl) ?_
                  refine rl_nil ?_
                  refine run_seq ?_
                  refine run_region ?_
                  refine rl_v rfl rfl rfl (ov_move rfl rfl) ?_
                  refine rl_v rfl rfl rfl (ov_move rfl rfl) ?_
                  refine rl_call callable_16 rfl rfl rfl rfl rfl rfl (free_any A Y n w.heap.size [] _ w w78 hn hE.good hWx) (fun e80 w81 hp82 => ?_)
                  obtain ⟨vf, cf, rfl, hRf, hWy⟩ := hp82
                  refine ⟨_, rfl, ?_⟩
                  obtain ⟨sf, zf, rfl⟩ := hRf.val
                  obtain ⟨Ky, Ny, hOy, hKy, hPly⟩ := hWy.pull2
                  refine rl_v rfl rfl rfl (ov_move rfl rfl) ?_
                  refine rl_v rfl rfl rfl (ov_extract rfl rfl (by rfl)) ?_
                  refine rl_v rfl rfl rfl (ov_extract rfl rfl (by rfl)) ?_
                  refine rl_v rfl rfl rfl (ov_assign rfl rfl) ?_
                  refine rl_v rfl rfl rfl (ov_assign rfl rfl) ?_
                  refine rl_nil ?_
                  refine run_seq ?_
                  refine run_region ?_
                  refine rl_v rfl rfl rfl (ov_move rfl rfl) ?_
                  refine rl_v rfl rfl rfl (ov_neq rfl rfl rfl) ?_
                  refine rl_v rfl rfl rfl (ov_move rfl rfl) ?_
                  first | refine rl_split_dec 166 rfl (fun r1 => ?_) (fun r1 => ?_) | refine rl_split 166 rfl (fun r1 => ?_) (fun r1 => ?_)
                  · refine rl_gskip rfl rfl rfl rfl rfl rfl ?_
                    refine rl_gskip rfl rfl rfl rfl rfl rfl ?_
                    refine rl_v rfl rfl rfl (ov_pick_t rfl rfl rfl) ?_
                    refine rl_v rfl rfl rfl (ov_move rfl rfl) ?_
                    refine rl_gskip rfl rfl rfl rfl rfl rfl ?_
                    refine rl_gskip rfl rfl rfl rfl rfl rfl ?_
                    refine rl_gskip rfl rfl rfl rfl rfl rfl ?_
                    refine rl_gskip rfl rfl rfl rfl rfl rfl ?_
                    refine rl_v rfl rfl rfl (ov_pick_t rfl rfl rfl) ?_
                    refine rl_nil ?_
                    -- cond live ['6:w', '21:n', '175:'], written []
                    exfalso; exact r1 rfl
                  · refine rl_gv rfl rfl rfl rfl rfl (ov_move rfl rfl) ?_
                    refine rl_gv rfl rfl rfl rfl rfl (ov_neq rfl rfl rfl) ?_
                    refine rl_v rfl rfl rfl (ov_pick_f rfl rfl rfl) ?_
                    refine rl_v rfl rfl rfl (ov_move rfl rfl) ?_
                    first | refine rl_split_dec 170 rfl (fun r2 => ?_) (fun r2 => ?_) | refine rl_split 170 rfl (fun r2 => ?_) (fun r2 => ?_)
                    · refine rl_gskip rfl rfl rfl rfl rfl rfl ?_
                      refine rl_gskip rfl rfl rfl rfl rfl rfl ?_
                      refine rl_gskip rfl rfl rfl rfl rfl rfl ?_
                      refine rl_gskip rfl rfl rfl rfl rfl rfl ?_
                      refine rl_v rfl rfl rfl (ov_pick_t rfl rfl rfl) ?_
                      refine rl_nil ?_
                      -- cond live ['6:w', '21:n', '175:'], written []
                      exfalso; exact r2 rfl
                    · refine rl_gv rfl rfl rfl rfl rfl (ov_move rfl rfl) ?_
                      refine rl_gv rfl rfl rfl rfl rfl (ov_move rfl rfl) ?_
                      refine rl_gcall callable_25 rfl rfl rfl rfl rfl rfl rfl rfl (longs_any sb sf (Y.fst n).length (Y.fst n).length zb zf 0 0 w.heap.size (Y.bal n) (Y.free n) _ w w81 hOy (SrcI.of_mem hRb (by simp)) (SrcI.of_mem hRf (by simp)) (by omega)) (fun e85 w86 hp87 => ?_)
                      obtain ⟨b, rfl, hb, hOu⟩ := hp87
                      refine ⟨_, rfl, ?_⟩
                      obtain rfl : b = true := hb.2 ⟨rfl, fun i _ _ => by have := held_zero hE.linv hE.good hE.noprep hn i; unfold MW.free; omega⟩
                      refine rl_gv rfl rfl rfl rfl rfl (ov_not rfl rfl) ?_
                      refine rl_v rfl rfl rfl (ov_pick_f rfl rfl rfl) ?_
                      refine rl_nil ?_
                      first | refine run_cond_dec rfl (fun bad => ?_) (fun ok => ?_) | refine run_cond rfl (fun bad => ?_) (fun ok => ?_)
                      · exfalso; exact Bool.noConfusion bad
                      · refine run_skip ?_
                        refine run_inBlock ?_
                        refine run_region ?_
                        refine rl_v rfl rfl rfl (ov_move rfl rfl) ?_
                        refine rl_v rfl rfl rfl (ov_add rfl rfl rfl (by omega)) ?_
                        refine rl_v rfl rfl rfl (ov_assign rfl rfl) ?_
                        refine rl_nil ?_
                        refine Run.use (ih76 (n + 1) _ ?_ ?_) (And.intro (by first | with_reducible rfl | exact slot_int rfl (by first | omega) | rfl) (And.intro rfl trivial))
                        · first | omega | (dsimp only; omega)
                        · exact ⟨by omega, by omega, (WAt.push2 hOu hKy hPly).drop.drop⟩
                · refine run_exit rfl ?_
                  refine run_seq ?_
                  refine run_region ?_
                  refine rl_call callable_20 rfl rfl rfl rfl rfl rfl (awake_any w.heap.size _ w w75 hWm.own) (fun e88 w89 hp90 => ?_)
                  obtain ⟨rfl, hOe⟩ := hp90
                  refine ⟨_, rfl, ?_⟩
                  refine rl_v rfl rfl rfl (ov_assign rfl rfl) ?_
                  refine rl_nil ?_
                  refine run_ret Try.func7 (res1 Try.results7 rfl) ?_
                  exact ⟨rfl, hOe.below⟩
end Go.Proofs.Yteagflekbbchhaa
