/- SettleFair: the walk. -/
import Derived.Test.YteagflekbbchhaaSfX
import Derived.Test.YteagflekbbchhaaSfT
set_option maxRecDepth 100000
namespace Go.Proofs.Yteagflekbbchhaa
open Go.RowKit Go.Proofs

theorem asks_zero' {g : Int → Ds} : ∀ {k : Nat}, (∀ d : Int, 1 ≤ d → d ≤ k → (g d).st ≠ 1) → asks g k = 0
  | 0, _ => rfl
  | k + 1, h => by
    unfold asks
    rw [asks_zero' fun d h1 h2 => h d h1 (by omega), if_neg (h _ (by omega) (by omega))]
theorem Quiet.phi {X : MW} (h : Quiet X) : phi X = 0 := by
  unfold Proofs.Yteagflekbbchhaa.phi
  rw [h.none, asks_zero' h.ask]
  rfl
theorem mod_m (v m : Int) (hm : 1 ≤ m ∧ m ≤ 1000) : 1 ≤ 1 + IntKind.i64.wrap (IntKind.u64.wrap v % IntKind.u64.wrap m) ∧ 1 + IntKind.i64.wrap (IntKind.u64.wrap v % IntKind.u64.wrap m) ≤ m := by
  rw [IntWalk.u64_in m (by omega)]
  have := mod_u v m hm
  omega
theorem wrap_m (m : Int) (hm : 1 ≤ m ∧ m ≤ 1000) : IntKind.u64.wrap m ≠ 0 := by rw [IntWalk.u64_in m (by omega)]; omega
/-- What the statement's world is like between its deals. -/
structure FairW (mem pat : Int) (i : Int) (X : MW) : Prop where
  quiet : Quiet X
  linv : LInv X
  mem : X.mem = mem
  pat : X.pat = pat
  few : (X.deals.length : Int) ≤ i
theorem FairW.begins {mem pat i : Int} {X : MW} (h : FairW mem pat i X) (hi : i < 12) (hp : 2 ≤ pat) {d : Dl} (hb : 1 ≤ d.b ∧ d.b ≤ mem) (hs : 1 ≤ d.s ∧ d.s ≤ mem) (hne : d.b ≠ d.s) (hm : 0 ≤ d.m ∧ d.m ≤ 1000) (hg : 0 ≤ d.g ∧ d.g ≤ 1000) :
    bcode X d = 0 ∧ FairW mem pat (i + 1) ((X.begin d).heal (pat + 8).toNat) ∧ (∀ n, n = 1 ∨ n = 2 → ((((X.begin d).heal (pat + 8).toNat).lg n).state ((X.deals.length : Int) + 1) = 2 ↔ can X d)) ∧ Good (X.begin d) ∧ phi (X.begin d) ≤ 4 := by
  have hX := h.quiet
  have hok : d.Ok X := by unfold Dl.Ok; rw [h.mem]; exact ⟨hb, hs, hne, ⟨hm.1, by omega⟩, hg.1, by omega⟩
  have hlt : X.deals.length < 1000 := by have := h.few; omega
  have f := fair_step hX hok hlt (by rw [h.pat]; exact hp)
  rw [h.pat] at f
  have hbad : ¬ DlBad X d := by unfold DlBad; rw [h.mem]; omega
  have hup : ¬ X.c.down = true := by rw [show X.c.down = false from (hX.calm 0 (.inl rfl)).1]; exact Bool.noConfusion
  have hfull : ¬ (1000 ≤ X.deals.length ∨ 3000 < X.bag.length) := by rw [hX.none]; simp; omega
  have hcf : cfg (X.begin d) = cfg { X with deals := X.deals ++ [d] } := cfg_turn { X with deals := X.deals ++ [d] } ((X.deals.length : Int) + 1) 1 1
  have hcH := cfg_heal (X.begin d) (pat + 8).toNat
  have hG1 := hX.good.begin hok hlt
  refine ⟨by unfold bcode; rw [if_neg hbad, if_neg hup, if_neg hfull], ⟨f.1, (h.linv.begin hX.good d).heal hG1 _, ?_, ?_, ?_⟩, f.2, hG1, ?_⟩
  · exact (congrArg (fun p => p.1) (hcH.trans hcf)).trans h.mem
  · exact (congrArg (fun p => p.2.1) (hcH.trans hcf)).trans h.pat
  · have e : ((X.begin d).heal (pat + 8).toNat).deals = X.deals ++ [d] := congrArg (fun p => p.2.2.1) (hcH.trans hcf)
    rw [e]
    have := h.few
    simp
    omega
  · have := phi_begin X d
    rw [hX.phi] at this
    exact this
theorem FairW.refuse {mem pat i : Int} {X : MW} (_ : FairW mem pat i X) {d : Dl} (he : d.b = d.s) : bcode X d = 1 := by
  unfold bcode
  rw [if_pos (.inr (.inr (.inl he)))]
theorem FairW.next {mem pat i : Int} {X : MW} (h : FairW mem pat i X) : FairW mem pat (i + 1) X := { h with few := by have := h.few; omega }

set_option maxHeartbeats 4000000 in
theorem settleFair_any (m p : Int) (a1 a2 lo : Option Addr) (n1 n2 c1 c2 ln lc : Nat) (G1 G2 : Int → Int) (D : Int → Dl) (w : World) (h1 : IAt w.heap.size w a1 n1 (fun i => iv (G1 i))) (h2 : IAt w.heap.size w a2 n2 (fun i => iv (G2 i))) (hl : SAt w.heap.size w lo 4 ln (fun i => dll (D i))) :
    Calls Try.prog 3 #[.agg #[iv m, iv p, .slice a1 n1 c1, .slice a2 n2 c2], .slice lo ln lc] w fun e w' => e = .returned (.bool true) ∧ Below w.heap.size w w' := by
  obtain ⟨lb, loff, hla, hrow⟩ := hl.open (by decide)
  refine calls_of_run (F := [(0, _), (1, _)]) Try.func3 rfl Try.ntmps3 rfl rfl ?_
  refine run_seq ?_
  refine run_region ?_
  refine rl_ow rfl (ow_box _ rfl rfl rfl rfl rfl (Own.init w)) ?_
  rintro _ w1 ⟨b2, rfl, hO2, hs3⟩
  refine rl_v rfl rfl rfl (ov_assign rfl rfl) ?_
  refine rl_nil ?_
  refine run_seq ?_
  refine run_region ?_
  refine rl_v rfl rfl rfl (ov_loadW rfl Try.underlying24 rfl (by kernel_rfl) rfl hO2 0 rfl) ?_
  refine rl_call callable_13 rfl rfl rfl rfl rfl rfl (tame_any m p a1 a2 n1 n2 c1 c2 G1 G2 w.heap.size _ w w1 h1 h2 hO2) (fun e4 w5 hp6 => ?_)
  obtain ⟨mem, pt, f1, f2, v1, v2, k1, k2, rfl, hm, hp, hR1, hR2, ⟨hl1, hl2⟩, hf1, hf2, hOt⟩ := hp6
  refine ⟨_, rfl, ?_⟩
  obtain ⟨s1, z1, rfl⟩ := hR1.val
  obtain ⟨s2, z2, rfl⟩ := hR2.val
  refine rl_ow rfl (ow_alloc _ rfl rfl rfl zero_24 rfl hOt) ?_
  rintro _ w7 ⟨b5, rfl, hO8, hs9⟩
  refine rl_ow rfl (ow_storeW rfl rfl (by kernel_rfl) hO8 0 rfl rfl (by rfl) rfl (by rfl)) ?_
  rintro _ w10 ⟨rfl, hO11, hs12⟩
  refine rl_nil ?_
  refine run_seq ?_
  refine run_region ?_
  refine rl_v rfl rfl rfl (ov_fieldS rfl Try.underlying24 rfl (fo := 1) rfl (by kernel_rfl) rfl) ?_
  refine rl_v rfl rfl rfl (ov_load rfl Try.underlying3 rfl rfl (by first | exact hO11.cellL 0 rfl (off := 1) rfl)) ?_
  refine rl_v rfl rfl rfl (ov_max rfl rfl rfl) ?_
  refine rl_v rfl rfl rfl (ov_fieldS rfl Try.underlying24 rfl (fo := 1) rfl (by kernel_rfl) rfl) ?_
  refine rl_ow rfl (ow_storeL rfl rfl (by kernel_rfl) hO11 0 rfl rfl rfl rfl rfl) ?_
  rintro _ w13 ⟨rfl, hO14, hs15⟩
  obtain ⟨pat, hpe⟩ : ∃ pat, pat = max 2 pt := ⟨_, rfl⟩
  have hpt : 2 ≤ pat ∧ pat ≤ 6 := by omega
  have hOp : Own w.heap.size w w13 (some (lch b5 24 [iv mem, iv pat, .slice s1 f1.length z1, .slice s2 f2.length z2]) :: [k1, k2, some (lch b2 24 [iv m, iv p, .slice a1 n1 c1, .slice a2 n2 c2])]) := by rw [hpe]; exact hO14
  clear hpe
  refine rl_nil ?_
  refine run_seq ?_
  refine run_region ?_
  refine rl_v rfl rfl rfl (ov_loadW rfl Try.underlying24 rfl (by kernel_rfl) rfl hOp 0 rfl) ?_
  refine rl_call callable_15 rfl rfl rfl rfl rfl rfl (give_any mem pat s1 s2 f1.length f2.length z1 z2 w.heap.size _ w w13 hOp) (fun e16 w17 hp18 => ?_)
  obtain ⟨rfl, hOg⟩ := hp18
  refine ⟨_, rfl, ?_⟩
  refine rl_call callable_14 rfl rfl rfl rfl rfl rfl (newOk mem pat f1 f2 s1 s2 z1 z2 w.heap.size _ w w17 hOg (SrcI.of_row hR1 (k := 1) rfl) (SrcI.of_row hR2 (k := 2) rfl) (by omega) (by omega) hl1 hl2 (lt100 hf1) (lt100 hf2)) (fun e19 w20 hp21 => ?_)
  obtain ⟨A, rfl, hW⟩ := hp21
  refine ⟨_, rfl, ?_⟩
  refine rl_v rfl rfl rfl (ov_move rfl rfl) ?_
  refine rl_v rfl rfl rfl (ov_extract rfl rfl (by rfl)) ?_
  refine rl_v rfl rfl rfl (ov_extract rfl rfl (by rfl)) ?_
  refine rl_v rfl rfl rfl (ov_assign rfl rfl) ?_
  refine rl_v rfl rfl rfl (ov_assign rfl rfl) ?_
  refine rl_nil ?_
  refine run_seq ?_
  refine run_seq ?_
  refine run_region ?_
  refine rl_v rfl rfl rfl (ov_move rfl rfl) ?_
  refine rl_v rfl rfl rfl (ov_neq rfl rfl rfl) ?_
  refine rl_v rfl rfl rfl (ov_move rfl rfl) ?_
  first | refine rl_split_dec 33 rfl (fun g1 => ?_) (fun g1 => ?_) | refine rl_split 33 rfl (fun g1 => ?_) (fun g1 => ?_)
  · refine rl_gskip rfl rfl rfl rfl rfl rfl ?_
    refine rl_gskip rfl rfl rfl rfl rfl rfl ?_
    refine rl_v rfl rfl rfl (ov_pick_t rfl rfl rfl) ?_
    refine rl_nil ?_
    -- cond live ['1:l', '5:own', '6:w', '36:'], written []
    exfalso; exact g1 rfl
  · refine rl_gv rfl rfl rfl rfl rfl (ov_move rfl rfl) ?_
    refine rl_gv rfl rfl rfl rfl rfl (ov_ptrnil rfl Try.underlying27 rfl) ?_
    refine rl_v rfl rfl rfl (ov_pick_f rfl rfl rfl) ?_
    refine rl_nil ?_
    refine run_cond_f rfl ?_
    have hG0 : Good (MW.init mem pat f1 f2) := Good.init (by omega) (by omega) hl1 hl2 (lt100 hf1) (lt100 hf2)
    generalize hRR : [k1, k2, some (lch b2 24 [iv m, iv p, .slice a1 n1 c1, .slice a2 n2 c2])] = RR at *
    refine run_skip ?_
    refine run_seq ?_
    refine run_seq ?_
    refine run_region ?_
    refine rl_v rfl rfl rfl (ov_assign rfl rfl) ?_
    refine rl_nil ?_
    refine run_block ?_
    refine Run.keep [1, 5, 6, 8] (F' := [(1, _), (5, _), (6, _), (8, _)]) rfl ?_
    refine run_loop2 (fun (i : Int) (X : MW) => [(8, .int .i64 i)]) [1, 5, 6] (fun (i : Int) (X : MW) (w23 : World) => 0 ≤ i ∧ i ≤ 12 ∧ FairW mem pat i X ∧ WAt w.heap.size w w23 A X [] (some (lch b5 24 [iv mem, iv pat, .slice s1 f1.length z1, .slice s2 f2.length z2]) :: RR)) (fun (i : Int) (X : MW) => (12 - i).toNat) (0) (MW.init mem pat f1 f2) ?_ (And.intro (by first | with_reducible rfl | exact slot_int rfl (by first | omega) | rfl) (And.intro rfl (And.intro rfl (And.intro rfl trivial)))) ?_
    · exact ⟨by omega, by omega, ⟨quiet_init hG0, LInv.init _ _ _ _, rfl, rfl, Int.le_refl _⟩, hW⟩
    intro i X w23 hIw23 ih24
    obtain ⟨hi0, hi1, hX, hW⟩ := hIw23
    show Run _ _ _ _ [(8, _), (1, _), (5, _), (6, _)] _ _
    refine run_seq ?_
    refine run_seq ?_
    refine run_region_join 44 (.bool (decide (i < ln ∧ i < 12))) [1, 5, 6, 8] (fun hk25 => ?_) ?_
    · refine rl_v rfl rfl rfl (ov_move rfl rfl) ?_
      refine rl_v rfl rfl rfl (ov_move rfl rfl) ?_
      refine rl_v rfl rfl rfl (ov_len rfl Try.underlying25 rfl) ?_
      refine rl_v rfl rfl rfl (ov_lss rfl rfl rfl) ?_
      refine rl_v rfl rfl rfl (ov_move rfl rfl) ?_
      first | refine rl_split_dec 41 rfl (fun q1 => ?_) (fun q1 => ?_) | refine rl_split 41 rfl (fun q1 => ?_) (fun q1 => ?_)
      · refine rl_gv rfl rfl rfl rfl rfl (ov_move rfl rfl) ?_
        refine rl_gv rfl rfl rfl rfl rfl (ov_lss rfl rfl rfl) ?_
        refine rl_v rfl rfl rfl (ov_pick_t rfl rfl rfl) ?_
        refine rl_nil (hk25 _ (jbd rfl (by omega)) (And.intro rfl (And.intro rfl (And.intro rfl (And.intro rfl trivial)))))
      · refine rl_gskip rfl rfl rfl rfl rfl rfl ?_
        refine rl_gskip rfl rfl rfl rfl rfl rfl ?_
        refine rl_v rfl rfl rfl (ov_pick_f rfl rfl rfl) ?_
        refine rl_nil (hk25 _ (jbf rfl (by omega)) (And.intro rfl (And.intro rfl (And.intro rfl (And.intro rfl trivial)))))
    · show Run _ _ _ _ [(44, _), (1, _), (5, _), (6, _), (8, _)] _ _
      first | refine run_cond_dec rfl (fun q => ?_) (fun qn => ?_) | refine run_cond rfl (fun q => ?_) (fun qn => ?_)
      · have hG := hX.quiet.good
        have hmem := hX.mem
        obtain ⟨Ka, Na, hOa, hKa, hPla⟩ := hW.flip
        refine run_skip ?_
        refine run_seq ?_
        refine run_block ?_
        refine run_seq ?_
        refine run_region ?_
        refine rl_v rfl rfl rfl (ov_move rfl rfl) ?_
        refine rl_v rfl rfl rfl (ov_move rfl rfl) ?_
        refine rl_v rfl rfl rfl (ov_index rfl Try.underlying25 (by kernel_rfl) (s := 4) rfl rfl ⟨by omega, by omega⟩ (by first | rfl | exact (hla (by omega)))) ?_
        refine rl_v rfl rfl rfl (ov_loadE rfl Try.underlying34 rfl (by kernel_rfl) rfl ⟨by omega, by omega⟩ rfl (hrow _ hOa.below)) ?_
        refine rl_ow rfl (ow_alloc _ rfl rfl rfl zero_34 rfl hOa) ?_
        rintro _ w27 ⟨b9, rfl, hO28, hs29⟩
        refine rl_ow rfl (ow_storeW rfl rfl (by kernel_rfl) hO28 0 rfl rfl (by rfl) rfl (by rfl)) ?_
        rintro _ w30 ⟨rfl, hO31, hs32⟩
        refine rl_nil ?_
        refine run_seq ?_
        refine run_region ?_
        refine rl_v rfl rfl rfl (ov_fieldS rfl Try.underlying34 rfl (fo := 2) rfl (by kernel_rfl) rfl) ?_
        refine rl_v rfl rfl rfl (ov_load rfl Try.underlying2 rfl rfl (by first | exact hO31.cellL 0 rfl (off := 2) rfl)) ?_
        refine rl_v rfl rfl rfl (ov_conv rfl Try.underlying2 Try.underlying35 rfl) ?_
        refine rl_v rfl rfl rfl (ov_rem rfl rfl rfl (wrap_u64_nonneg _) (by omega)) ?_
        refine rl_v rfl rfl rfl (ov_conv rfl Try.underlying35 Try.underlying2 rfl) ?_
        refine rl_v rfl rfl rfl (ov_fieldS rfl Try.underlying34 rfl (fo := 2) rfl (by kernel_rfl) rfl) ?_
        refine rl_ow rfl (ow_storeL rfl rfl (by kernel_rfl) hO31 0 rfl rfl rfl rfl rfl) ?_
        rintro _ w33 ⟨rfl, hO34, hs35⟩
        refine rl_nil ?_
        refine run_seq ?_
        refine run_region ?_
        refine rl_v rfl rfl rfl (ov_fieldS rfl Try.underlying34 rfl (fo := 3) rfl (by kernel_rfl) rfl) ?_
        refine rl_v rfl rfl rfl (ov_load rfl Try.underlying2 rfl rfl (by first | exact hO34.cellL 0 rfl (off := 3) rfl)) ?_
        refine rl_v rfl rfl rfl (ov_conv rfl Try.underlying2 Try.underlying35 rfl) ?_
        refine rl_v rfl rfl rfl (ov_rem rfl rfl rfl (wrap_u64_nonneg _) (by omega)) ?_
        refine rl_v rfl rfl rfl (ov_conv rfl Try.underlying35 Try.underlying2 rfl) ?_
        refine rl_v rfl rfl rfl (ov_fieldS rfl Try.underlying34 rfl (fo := 3) rfl (by kernel_rfl) rfl) ?_
        refine rl_ow rfl (ow_storeL rfl rfl (by kernel_rfl) hO34 0 rfl rfl rfl rfl rfl) ?_
        rintro _ w36 ⟨rfl, hO37, hs38⟩
        have hbu := mod_m (D i).b mem (by omega)
        refine rl_nil ?_
        refine run_seq ?_
        refine run_region ?_
        refine rl_v rfl rfl rfl (ov_fieldS rfl Try.underlying34 rfl (fo := 0) rfl (by kernel_rfl) rfl) ?_
        refine rl_v rfl rfl rfl (ov_load rfl Try.underlying3 rfl rfl (by first | exact hO37.cellL 0 rfl (off := 0) rfl)) ?_
        refine rl_v rfl rfl rfl (ov_conv rfl Try.underlying3 Try.underlying36 rfl) ?_
        refine rl_v rfl rfl rfl (ov_fieldS rfl Try.underlying24 rfl (fo := 0) rfl (by kernel_rfl) rfl) ?_
        refine rl_v rfl rfl rfl (ov_load rfl Try.underlying3 rfl rfl (by first | exact hO37.cellL 1 rfl (off := 0) rfl)) ?_
        refine rl_v rfl rfl rfl (ov_conv rfl Try.underlying3 Try.underlying36 rfl) ?_
        refine rl_v rfl rfl rfl (ov_rem rfl rfl rfl (wrap_u64_nonneg _) (wrap_m _ (by omega))) ?_
        refine rl_v rfl rfl rfl (ov_conv rfl Try.underlying36 Try.underlying3 rfl) ?_
        refine rl_v rfl rfl rfl (ov_add rfl rfl rfl (by omega)) ?_
        refine rl_v rfl rfl rfl (ov_fieldS rfl Try.underlying34 rfl (fo := 0) rfl (by kernel_rfl) rfl) ?_
        refine rl_ow rfl (ow_storeL rfl rfl (by kernel_rfl) hO37 0 rfl rfl rfl rfl rfl) ?_
        rintro _ w39 ⟨rfl, hO40, hs41⟩
        have hse := mod_m (D i).s mem (by omega)
        refine rl_nil ?_
        refine run_seq ?_
        refine run_region ?_
        refine rl_v rfl rfl rfl (ov_fieldS rfl Try.underlying34 rfl (fo := 1) rfl (by kernel_rfl) rfl) ?_
        refine rl_v rfl rfl rfl (ov_load rfl Try.underlying3 rfl rfl (by first | exact hO40.cellL 0 rfl (off := 1) rfl)) ?_
        refine rl_v rfl rfl rfl (ov_conv rfl Try.underlying3 Try.underlying36 rfl) ?_
        refine rl_v rfl rfl rfl (ov_fieldS rfl Try.underlying24 rfl (fo := 0) rfl (by kernel_rfl) rfl) ?_
        refine rl_v rfl rfl rfl (ov_load rfl Try.underlying3 rfl rfl (by first | exact hO40.cellL 1 rfl (off := 0) rfl)) ?_
        refine rl_v rfl rfl rfl (ov_conv rfl Try.underlying3 Try.underlying36 rfl) ?_
        refine rl_v rfl rfl rfl (ov_rem rfl rfl rfl (wrap_u64_nonneg _) (wrap_m _ (by omega))) ?_
        refine rl_v rfl rfl rfl (ov_conv rfl Try.underlying36 Try.underlying3 rfl) ?_
        refine rl_v rfl rfl rfl (ov_add rfl rfl rfl (by omega)) ?_
        refine rl_v rfl rfl rfl (ov_fieldS rfl Try.underlying34 rfl (fo := 1) rfl (by kernel_rfl) rfl) ?_
        refine rl_ow rfl (ow_storeL rfl rfl (by kernel_rfl) hO40 0 rfl rfl rfl rfl rfl) ?_
        rintro _ w42 ⟨rfl, hO43, hs44⟩
        have hmm := mod_u (D i).m 60 (by decide)
        have hgg := mod_u (D i).g 60 (by decide)
        obtain ⟨x, hx⟩ : ∃ x : Dl, x = ⟨1 + IntKind.i64.wrap (IntKind.u64.wrap (D i).b % IntKind.u64.wrap mem), 1 + IntKind.i64.wrap (IntKind.u64.wrap (D i).s % IntKind.u64.wrap mem), IntKind.i64.wrap (IntKind.u64.wrap (D i).m % 60), IntKind.i64.wrap (IntKind.u64.wrap (D i).g % 60)⟩ := ⟨_, rfl⟩
        have hOx : Own w.heap.size w w42 ((some (lch b9 34 (dll x)) :: some (lch b5 24 [iv mem, iv pat, .slice s1 f1.length z1, .slice s2 f2.length z2]) :: RR) ++ (Ka.M A X ++ Na)) := by rw [hx]; exact hO43
        have hxb : 1 ≤ x.b ∧ x.b ≤ mem := by rw [hx]; exact hbu
        have hxs : 1 ≤ x.s ∧ x.s ≤ mem := by rw [hx]; exact hse
        have hxm : 0 ≤ x.m ∧ x.m ≤ 1000 := by rw [hx]; exact ⟨hmm.1, by have := hmm.2; dsimp only; omega⟩
        have hxg : 0 ≤ x.g ∧ x.g ≤ 1000 := by rw [hx]; exact ⟨hgg.1, by have := hgg.2; dsimp only; omega⟩
        clear hbu hse hmm hgg hx
        have hWx : WAt w.heap.size w w42 A X [] (some (lch b9 34 (dll x)) :: some (lch b5 24 [iv mem, iv pat, .slice s1 f1.length z1, .slice s2 f2.length z2]) :: RR) := WAt.unflip hOx hKa hPla
        have hf1l := hG.fl 1 (.inl rfl)
        have hf2l := hG.fl 2 (.inr rfl)
        refine rl_nil ?_
        refine run_seq ?_
        refine run_region ?_
        refine rl_v rfl rfl rfl (ov_move rfl rfl) ?_
        refine rl_call callable_16 rfl rfl rfl rfl rfl rfl (free_any A X 1 w.heap.size [] _ w w42 (.inl rfl) hG hWx) (fun e45 w46 hp47 => ?_)
        obtain ⟨v10, k10, rfl, hF1, hWy⟩ := hp47
        refine ⟨_, rfl, ?_⟩
        obtain ⟨y1, y2, rfl⟩ := hF1.val
        refine rl_v rfl rfl rfl (ov_move rfl rfl) ?_
        refine rl_v rfl rfl rfl (ov_extract rfl rfl (by rfl)) ?_
        refine rl_v rfl rfl rfl (ov_extract rfl rfl (by rfl)) ?_
        refine rl_v rfl rfl rfl (ov_assign rfl rfl) ?_
        refine rl_v rfl rfl rfl (ov_assign rfl rfl) ?_
        refine rl_nil ?_
        refine run_seq ?_
        refine run_region ?_
        refine rl_v rfl rfl rfl (ov_move rfl rfl) ?_
        refine rl_call callable_16 rfl rfl rfl rfl rfl rfl (free_any A X 2 w.heap.size [] _ w w46 (.inr rfl) hG hWy) (fun e48 w49 hp50 => ?_)
        obtain ⟨v12, k12, rfl, hF2, hWz⟩ := hp50
        refine ⟨_, rfl, ?_⟩
        obtain ⟨y3, y4, rfl⟩ := hF2.val
        obtain ⟨Kb, Nb, hOb, hKb, hPlb⟩ := hWz.flip
        refine rl_v rfl rfl rfl (ov_move rfl rfl) ?_
        refine rl_v rfl rfl rfl (ov_extract rfl rfl (by rfl)) ?_
        refine rl_v rfl rfl rfl (ov_extract rfl rfl (by rfl)) ?_
        refine rl_v rfl rfl rfl (ov_assign rfl rfl) ?_
        refine rl_v rfl rfl rfl (ov_assign rfl rfl) ?_
        refine rl_nil ?_
        refine run_seq ?_
        refine run_region ?_
        refine rl_v rfl rfl rfl (ov_move rfl rfl) ?_
        refine rl_v rfl rfl rfl (ov_loadW rfl Try.underlying34 rfl (by kernel_rfl) rfl hOb 2 rfl) ?_
        refine rl_call callable_17 rfl rfl rfl rfl rfl rfl (begin_any A X x w.heap.size [] _ w w49 hG (by rw [hX.quiet.none]; decide) hWz) (fun e51 w52 hp53 => ?_)
        obtain ⟨rfl, hWb⟩ := hp53
        refine ⟨_, rfl, ?_⟩
        obtain ⟨Kc, Nc, hOc, hKc, hPlc⟩ := hWb.flip
        refine rl_v rfl rfl rfl (ov_move rfl rfl) ?_
        refine rl_v rfl rfl rfl (ov_extract rfl rfl (by rfl)) ?_
        refine rl_v rfl rfl rfl (ov_extract rfl rfl (by rfl)) ?_
        refine rl_v rfl rfl rfl (ov_assign rfl rfl) ?_
        refine rl_v rfl rfl rfl (ov_assign rfl rfl) ?_
        refine rl_nil ?_
        refine run_seq ?_
        refine run_seq ?_
        refine run_region ?_
        refine rl_v rfl rfl rfl (ov_move rfl rfl) ?_
        refine rl_v rfl rfl rfl (ov_neq rfl rfl rfl) ?_
        refine rl_v rfl rfl rfl (ov_move rfl rfl) ?_
        first | refine rl_split_dec 101 rfl (fun r1 => ?_) (fun r1 => ?_) | refine rl_split 101 rfl (fun r1 => ?_) (fun r1 => ?_)
        · refine rl_gskip rfl rfl rfl rfl rfl rfl ?_
          refine rl_gskip rfl rfl rfl rfl rfl rfl ?_
          refine rl_v rfl rfl rfl (ov_pick_t rfl rfl rfl) ?_
          refine rl_v rfl rfl rfl (ov_move rfl rfl) ?_
          refine rl_gskip rfl rfl rfl rfl rfl rfl ?_
          refine rl_gskip rfl rfl rfl rfl rfl rfl ?_
          refine rl_gskip rfl rfl rfl rfl rfl rfl ?_
          refine rl_gskip rfl rfl rfl rfl rfl rfl ?_
          refine rl_gskip rfl rfl rfl rfl rfl rfl ?_
          refine rl_v rfl rfl rfl (ov_pick_t rfl rfl rfl) ?_
          refine rl_v rfl rfl rfl (ov_move rfl rfl) ?_
          refine rl_gskip rfl rfl rfl rfl rfl rfl ?_
          refine rl_gskip rfl rfl rfl rfl rfl rfl ?_
          refine rl_gskip rfl rfl rfl rfl rfl rfl ?_
          refine rl_gskip rfl rfl rfl rfl rfl rfl ?_
          refine rl_gskip rfl rfl rfl rfl rfl rfl ?_
          refine rl_v rfl rfl rfl (ov_pick_t rfl rfl rfl) ?_
          refine rl_nil ?_
          -- cond live ['1:l', '5:own', '6:w', '8:i', '9:d', '10:m', '12:g', '14:n', '15:k', '118:'], written []
          exfalso; exact r1 rfl
        · refine rl_gv rfl rfl rfl rfl rfl (ov_move rfl rfl) ?_
          refine rl_gv rfl rfl rfl rfl rfl (ov_neq rfl rfl rfl) ?_
          refine rl_v rfl rfl rfl (ov_pick_f rfl rfl rfl) ?_
          refine rl_v rfl rfl rfl (ov_move rfl rfl) ?_
          first | refine rl_split_dec 105 rfl (fun r2 => ?_) (fun r2 => ?_) | refine rl_split 105 rfl (fun r2 => ?_) (fun r2 => ?_)
          · refine rl_gskip rfl rfl rfl rfl rfl rfl ?_
            refine rl_gskip rfl rfl rfl rfl rfl rfl ?_
            refine rl_gskip rfl rfl rfl rfl rfl rfl ?_
            refine rl_gskip rfl rfl rfl rfl rfl rfl ?_
            refine rl_gskip rfl rfl rfl rfl rfl rfl ?_
            refine rl_v rfl rfl rfl (ov_pick_t rfl rfl rfl) ?_
            refine rl_v rfl rfl rfl (ov_move rfl rfl) ?_
            refine rl_gskip rfl rfl rfl rfl rfl rfl ?_
            refine rl_gskip rfl rfl rfl rfl rfl rfl ?_
            refine rl_gskip rfl rfl rfl rfl rfl rfl ?_
            refine rl_gskip rfl rfl rfl rfl rfl rfl ?_
            refine rl_gskip rfl rfl rfl rfl rfl rfl ?_
            refine rl_v rfl rfl rfl (ov_pick_t rfl rfl rfl) ?_
            refine rl_nil ?_
            -- cond live ['1:l', '5:own', '6:w', '8:i', '9:d', '10:m', '12:g', '14:n', '15:k', '118:'], written []
            exfalso; exact r2 rfl
          · refine rl_gv rfl rfl rfl rfl rfl (ov_move rfl rfl) ?_
            refine rl_gv rfl rfl rfl rfl rfl (ov_len rfl Try.underlying22 rfl) ?_
            refine rl_gv rfl rfl rfl rfl rfl (ov_fieldS rfl Try.underlying24 rfl (fo := 0) rfl (by kernel_rfl) rfl) ?_
            refine rl_gv rfl rfl rfl rfl rfl (ov_load rfl Try.underlying3 rfl rfl (by first | exact hOc.cellL 3 rfl (off := 0) rfl)) ?_
            refine rl_gv rfl rfl rfl rfl rfl (ov_neq rfl rfl rfl) ?_
            refine rl_v rfl rfl rfl (ov_pick_f rfl rfl rfl) ?_
            refine rl_v rfl rfl rfl (ov_move rfl rfl) ?_
            first | refine rl_split_dec 112 rfl (fun r3 => ?_) (fun r3 => ?_) | refine rl_split 112 rfl (fun r3 => ?_) (fun r3 => ?_)
            · refine rl_gskip rfl rfl rfl rfl rfl rfl ?_
              refine rl_gskip rfl rfl rfl rfl rfl rfl ?_
              refine rl_gskip rfl rfl rfl rfl rfl rfl ?_
              refine rl_gskip rfl rfl rfl rfl rfl rfl ?_
              refine rl_gskip rfl rfl rfl rfl rfl rfl ?_
              refine rl_v rfl rfl rfl (ov_pick_t rfl rfl rfl) ?_
              refine rl_nil ?_
              -- cond live ['1:l', '5:own', '6:w', '8:i', '9:d', '10:m', '12:g', '14:n', '15:k', '118:'], written []
              exfalso; omega
            · refine rl_gv rfl rfl rfl rfl rfl (ov_move rfl rfl) ?_
              refine rl_gv rfl rfl rfl rfl rfl (ov_len rfl Try.underlying22 rfl) ?_
              refine rl_gv rfl rfl rfl rfl rfl (ov_fieldS rfl Try.underlying24 rfl (fo := 0) rfl (by kernel_rfl) rfl) ?_
              refine rl_gv rfl rfl rfl rfl rfl (ov_load rfl Try.underlying3 rfl rfl (by first | exact hOc.cellL 3 rfl (off := 0) rfl)) ?_
              refine rl_gv rfl rfl rfl rfl rfl (ov_neq rfl rfl rfl) ?_
              refine rl_v rfl rfl rfl (ov_pick_f rfl rfl rfl) ?_
              refine rl_nil ?_
              first | refine run_cond_dec rfl (fun r4 => ?_) (fun r4n => ?_) | refine run_cond rfl (fun r4 => ?_) (fun r4n => ?_)
              · exfalso; omega
              · refine run_skip ?_
                refine run_seq ?_
                refine run_seq ?_
                refine run_region ?_
                refine rl_v rfl rfl rfl (ov_fieldS rfl Try.underlying34 rfl (fo := 0) rfl (by kernel_rfl) rfl) ?_
                refine rl_v rfl rfl rfl (ov_load rfl Try.underlying3 rfl rfl (by first | exact hOc.cellL 2 rfl (off := 0) rfl)) ?_
                refine rl_v rfl rfl rfl (ov_fieldS rfl Try.underlying34 rfl (fo := 1) rfl (by kernel_rfl) rfl) ?_
                refine rl_v rfl rfl rfl (ov_load rfl Try.underlying3 rfl rfl (by first | exact hOc.cellL 2 rfl (off := 1) rfl)) ?_
                refine rl_v rfl rfl rfl (ov_eql rfl rfl rfl) ?_
                refine rl_nil ?_
                first | refine run_cond_dec rfl (fun eqq => ?_) (fun nee => ?_) | refine run_cond rfl (fun eqq => ?_) (fun nee => ?_)
                · have hb1 := hX.refuse (d := x) eqq
                  refine run_seq ?_
                  refine run_seq ?_
                  refine run_region ?_
                  refine rl_v rfl rfl rfl (ov_move rfl rfl) ?_
                  refine rl_v rfl rfl rfl (ov_neq rfl rfl rfl) ?_
                  refine rl_v rfl rfl rfl (ov_move rfl rfl) ?_
                  first | refine rl_split_dec 126 rfl (fun u1 => ?_) (fun u1 => ?_) | refine rl_split 126 rfl (fun u1 => ?_) (fun u1 => ?_)
                  · refine rl_gskip rfl rfl rfl rfl rfl rfl ?_
                    refine rl_gskip rfl rfl rfl rfl rfl rfl ?_
                    refine rl_v rfl rfl rfl (ov_pick_t rfl rfl rfl) ?_
                    refine rl_nil ?_
                    -- cond live ['1:l', '5:own', '6:w', '8:i', '129:'], written []
                    exfalso; exact u1 hb1
                  · refine rl_gv rfl rfl rfl rfl rfl (ov_move rfl rfl) ?_
                    refine rl_gv rfl rfl rfl rfl rfl (ov_neq rfl rfl rfl) ?_
                    refine rl_v rfl rfl rfl (ov_pick_f rfl rfl rfl) ?_
                    refine rl_nil ?_
                    first | refine run_cond_dec rfl (fun u2 => ?_) (fun u2n => ?_) | refine run_cond rfl (fun u2 => ?_) (fun u2n => ?_)
                    · exfalso; rw [hb1] at u2; exact u2 rfl
                    · have hWb2 := hWb
                      rw [hb1, if_neg (by decide)] at hWb2
                      refine run_skip ?_
                      refine run_exit rfl ?_
                      refine run_region ?_
                      refine rl_v rfl rfl rfl (ov_move rfl rfl) ?_
                      refine rl_v rfl rfl rfl (ov_add rfl rfl rfl (by omega)) ?_
                      refine rl_v rfl rfl rfl (ov_assign rfl rfl) ?_
                      refine rl_nil ?_
                      refine Run.use (ih24 (i + 1) (X) _ ?_ ?_) (And.intro (by first | with_reducible rfl | exact slot_int rfl (by first | omega) | rfl) (And.intro rfl (And.intro rfl (And.intro rfl trivial))))
                      · first | omega | (dsimp only; omega)
                      · exact ⟨by omega, by omega, hX.next, hWb2.drop.drop.drop⟩
                · have hbg := hX.begins (by omega) hpt.1 hxb hxs nee hxm hxg
                  have hb0 := hbg.1
                  have hWb2 := hWb
                  rw [hb0, if_pos rfl] at hWb2
                  have ed : (if bcode X x = 0 then (X.deals.length : Int) + 1 else 0) = (X.deals.length : Int) + 1 := if_pos hb0
                  refine run_skip ?_
                  refine run_seq ?_
                  refine run_region ?_
                  refine rl_v rfl rfl rfl (ov_move rfl rfl) ?_
                  refine rl_v rfl rfl rfl (ov_fieldS rfl Try.underlying24 rfl (fo := 1) rfl (by kernel_rfl) rfl) ?_
                  refine rl_v rfl rfl rfl (ov_load rfl Try.underlying3 rfl rfl (by first | exact hOc.cellL 3 rfl (off := 1) rfl)) ?_
                  refine rl_v rfl rfl rfl (ov_add rfl rfl rfl (by omega)) ?_
                  refine rl_call callable_18 rfl rfl rfl rfl rfl rfl (heal_any A (X.begin x) (pat + 8) w.heap.size [] _ w w52 (by omega) hbg.2.2.2.1 (by have := hbg.2.2.2.2; omega) hWb2) (fun e58 w59 hp60 => ?_)
                  obtain ⟨rfl, hWh⟩ := hp60
                  refine ⟨_, rfl, ?_⟩
                  have hY := hbg.2.1
                  have hres := hbg.2.2.1
                  unfold can at hres
                  have hGY := hY.quiet.good
                  generalize (X.begin x).heal (pat + 8).toNat = Y at *
                  have hr1 : (Y.lg 1).state (if bcode X x = 0 then (X.deals.length : Int) + 1 else 0) = 2 ↔ (x.m ≤ X.free 1 (x.b - 1) ∧ x.g ≤ X.free 2 (x.s - 1)) := by rw [ed]; exact hres 1 (.inl rfl)
                  have hr2 : (Y.lg 2).state (if bcode X x = 0 then (X.deals.length : Int) + 1 else 0) = 2 ↔ (x.m ≤ X.free 1 (x.b - 1) ∧ x.g ≤ X.free 2 (x.s - 1)) := by rw [ed]; exact hres 2 (.inr rfl)
                  obtain ⟨Kd, Nd, hOd, hKd, hPld⟩ := hWh.flip
                  obtain ⟨fb1, fo1, hfa1, hfr1⟩ := (hF1.reads hOd 1 rfl).open
                  obtain ⟨fb2, fo2, hfa2, hfr2⟩ := (hF2.reads hOd 0 rfl).open
                  refine rl_v rfl rfl rfl (ov_move rfl rfl) ?_
                  refine rl_v rfl rfl rfl (ov_extract rfl rfl (by rfl)) ?_
                  refine rl_v rfl rfl rfl (ov_extract rfl rfl (by rfl)) ?_
                  refine rl_v rfl rfl rfl (ov_assign rfl rfl) ?_
                  refine rl_v rfl rfl rfl (ov_assign rfl rfl) ?_
                  refine rl_nil ?_
                  refine run_seq ?_
                  refine run_quiet_join mixed (by kernel_rfl) 18 (.bool (decide (x.m ≤ X.free 1 (x.b - 1) ∧ x.g ≤ X.free 2 (x.s - 1)))) [1, 5, 6, 8, 14, 15, 17] (fun hk61 => ?_) (fun n62 => ?_)
                  · refine rq_v rfl rfl rfl (fun _ => ov_move rfl rfl) ?_
                    refine rq_v rfl rfl rfl (fun _ => ov_fieldS rfl Try.underlying34 rfl (fo := 0) rfl (by kernel_rfl) rfl) ?_
                    refine rq_v rfl rfl rfl (fun _ => ov_load rfl Try.underlying3 rfl rfl (by show World.cell? w59 _ = _; first | exact hOd.cellL 2 rfl (off := 0) rfl)) ?_
                    refine rq_v rfl rfl rfl (fun _ => ov_sub rfl rfl rfl (by omega)) ?_
                    refine rq_v rfl rfl rfl (fun _ => ov_index1 rfl Try.underlying22 (by kernel_rfl) rfl rfl ⟨by omega, by omega⟩ (by first | rfl | exact (hfa1 (by omega)) | exact (hfa2 (by omega)))) ?_
                    refine rq_v rfl rfl rfl (fun _ => ov_load rfl Try.underlying2 rfl rfl (by show World.cell? w59 _ = _; first | exact hfr1 _ (Below.refl _ _) (x.b - 1) (by omega) (by omega))) ?_
                    refine rq_v rfl rfl rfl (fun _ => ov_fieldS rfl Try.underlying34 rfl (fo := 2) rfl (by kernel_rfl) rfl) ?_
                    refine rq_v rfl rfl rfl (fun _ => ov_load rfl Try.underlying2 rfl rfl (by show World.cell? w59 _ = _; first | exact hOd.cellL 2 rfl (off := 2) rfl)) ?_
                    refine rq_v rfl rfl rfl (fun _ => ov_geq rfl rfl rfl) ?_
                    refine rq_v rfl rfl rfl (fun _ => ov_move rfl rfl) ?_
                    first | refine rq_split_dec 147 rfl (fun e1 => ?_) (fun e1 => ?_) | refine rq_split 147 rfl (fun e1 => ?_) (fun e1 => ?_)
                    · refine rq_gv rfl rfl rfl rfl rfl (fun _ => ov_move rfl rfl) ?_
                      refine rq_gv rfl rfl rfl rfl rfl (fun _ => ov_fieldS rfl Try.underlying34 rfl (fo := 1) rfl (by kernel_rfl) rfl) ?_
                      refine rq_gv rfl rfl rfl rfl rfl (fun _ => ov_load rfl Try.underlying3 rfl rfl (by show World.cell? w59 _ = _; first | exact hOd.cellL 2 rfl (off := 1) rfl)) ?_
                      refine rq_gv rfl rfl rfl rfl rfl (fun _ => ov_sub rfl rfl rfl (by omega)) ?_
                      refine rq_gv rfl rfl rfl rfl rfl (fun _ => ov_index1 rfl Try.underlying22 (by kernel_rfl) rfl rfl ⟨by omega, by omega⟩ (by first | rfl | exact (hfa1 (by omega)) | exact (hfa2 (by omega)))) ?_
                      refine rq_gv rfl rfl rfl rfl rfl (fun _ => ov_load rfl Try.underlying2 rfl rfl (by show World.cell? w59 _ = _; first | exact hfr2 _ (Below.refl _ _) (x.s - 1) (by omega) (by omega))) ?_
                      refine rq_gv rfl rfl rfl rfl rfl (fun _ => ov_fieldS rfl Try.underlying34 rfl (fo := 3) rfl (by kernel_rfl) rfl) ?_
                      refine rq_gv rfl rfl rfl rfl rfl (fun _ => ov_load rfl Try.underlying2 rfl rfl (by show World.cell? w59 _ = _; first | exact hOd.cellL 2 rfl (off := 3) rfl)) ?_
                      refine rq_gv rfl rfl rfl rfl rfl (fun _ => ov_geq rfl rfl rfl) ?_
                      refine rq_v rfl rfl rfl (fun _ => ov_pick_t rfl rfl rfl) ?_
                      refine rq_v rfl rfl rfl (fun _ => ov_assign rfl rfl) ?_
                      refine rq_nil (fun n => hk61 n _ (jbd rfl (by omega)) (And.intro rfl (And.intro rfl (And.intro rfl (And.intro rfl (And.intro rfl (And.intro rfl (And.intro rfl trivial))))))))
                    · refine rq_gskip rfl rfl rfl rfl rfl rfl ?_
                      refine rq_gskip rfl rfl rfl rfl rfl rfl ?_
                      refine rq_gskip rfl rfl rfl rfl rfl rfl ?_
                      refine rq_gskip rfl rfl rfl rfl rfl rfl ?_
                      refine rq_gskip rfl rfl rfl rfl rfl rfl ?_
                      refine rq_gskip rfl rfl rfl rfl rfl rfl ?_
                      refine rq_gskip rfl rfl rfl rfl rfl rfl ?_
                      refine rq_gskip rfl rfl rfl rfl rfl rfl ?_
                      refine rq_gskip rfl rfl rfl rfl rfl rfl ?_
                      refine rq_v rfl rfl rfl (fun _ => ov_pick_f rfl rfl rfl) ?_
                      refine rq_v rfl rfl rfl (fun _ => ov_assign rfl rfl) ?_
                      refine rq_nil (fun n => hk61 n _ (jbf rfl (by omega)) (And.intro rfl (And.intro rfl (And.intro rfl (And.intro rfl (And.intro rfl (And.intro rfl (And.intro rfl trivial))))))))
                  · have hO65 := hOd.drewN n62
                    generalize World.drewN w59 n62 = w64 at hO65 ⊢
                    show Run _ _ _ _ [(18, _), (1, _), (5, _), (6, _), (8, _), (14, _), (15, _), (17, _)] _ _
                    refine run_seq ?_
                    refine run_region ?_
                    refine rl_v rfl rfl rfl (ov_move rfl rfl) ?_
                    refine rl_v rfl rfl rfl (ov_neq rfl rfl rfl) ?_
                    refine rl_v rfl rfl rfl (ov_move rfl rfl) ?_
                    first | refine rl_split_dec 160 rfl (fun xx1 => ?_) (fun xx1 => ?_) | refine rl_split 160 rfl (fun xx1 => ?_) (fun xx1 => ?_)
                    · refine rl_gskip rfl rfl rfl rfl rfl rfl ?_
                      refine rl_gskip rfl rfl rfl rfl rfl rfl ?_
                      refine rl_v rfl rfl rfl (ov_pick_t rfl rfl rfl) ?_
                      refine rl_v rfl rfl rfl (ov_move rfl rfl) ?_
                      refine rl_gskip rfl rfl rfl rfl rfl rfl ?_
                      refine rl_gskip rfl rfl rfl rfl rfl rfl ?_
                      refine rl_gskip rfl rfl rfl rfl rfl rfl ?_
                      refine rl_gskip rfl rfl rfl rfl rfl rfl ?_
                      refine rl_gskip rfl rfl rfl rfl rfl rfl ?_
                      refine rl_gskip rfl rfl rfl rfl rfl rfl ?_
                      refine rl_v rfl rfl rfl (ov_pick_t rfl rfl rfl) ?_
                      refine rl_v rfl rfl rfl (ov_move rfl rfl) ?_
                      refine rl_gskip rfl rfl rfl rfl rfl rfl ?_
                      refine rl_gskip rfl rfl rfl rfl rfl rfl ?_
                      refine rl_gskip rfl rfl rfl rfl rfl rfl ?_
                      refine rl_gskip rfl rfl rfl rfl rfl rfl ?_
                      refine rl_gskip rfl rfl rfl rfl rfl rfl ?_
                      refine rl_gskip rfl rfl rfl rfl rfl rfl ?_
                      refine rl_v rfl rfl rfl (ov_pick_t rfl rfl rfl) ?_
                      refine rl_nil ?_
                      -- cond live ['1:l', '5:own', '6:w', '8:i', '179:'], written []
                      exfalso; exact xx1 hb0
                    · refine rl_gv rfl rfl rfl rfl rfl (ov_move rfl rfl) ?_
                      refine rl_gv rfl rfl rfl rfl rfl (ov_neq rfl rfl rfl) ?_
                      refine rl_v rfl rfl rfl (ov_pick_f rfl rfl rfl) ?_
                      refine rl_v rfl rfl rfl (ov_move rfl rfl) ?_
                      first | refine rl_split_dec 164 rfl (fun xx2 => ?_) (fun xx2 => ?_) | refine rl_split 164 rfl (fun xx2 => ?_) (fun xx2 => ?_)
                      · refine rl_gskip rfl rfl rfl rfl rfl rfl ?_
                        refine rl_gskip rfl rfl rfl rfl rfl rfl ?_
                        refine rl_gskip rfl rfl rfl rfl rfl rfl ?_
                        refine rl_gskip rfl rfl rfl rfl rfl rfl ?_
                        refine rl_gskip rfl rfl rfl rfl rfl rfl ?_
                        refine rl_gskip rfl rfl rfl rfl rfl rfl ?_
                        refine rl_v rfl rfl rfl (ov_pick_t rfl rfl rfl) ?_
                        refine rl_v rfl rfl rfl (ov_move rfl rfl) ?_
                        refine rl_gskip rfl rfl rfl rfl rfl rfl ?_
                        refine rl_gskip rfl rfl rfl rfl rfl rfl ?_
                        refine rl_gskip rfl rfl rfl rfl rfl rfl ?_
                        refine rl_gskip rfl rfl rfl rfl rfl rfl ?_
                        refine rl_gskip rfl rfl rfl rfl rfl rfl ?_
                        refine rl_gskip rfl rfl rfl rfl rfl rfl ?_
                        refine rl_v rfl rfl rfl (ov_pick_t rfl rfl rfl) ?_
                        refine rl_nil ?_
                        -- cond live ['1:l', '5:own', '6:w', '8:i', '179:'], written []
                        exfalso; exact xx2 rfl
                      · refine rl_gv rfl rfl rfl rfl rfl (ov_move rfl rfl) ?_
                        refine rl_gv rfl rfl rfl rfl rfl (ov_move rfl rfl) ?_
                        refine rl_gcall callable_19 rfl rfl rfl rfl rfl rfl rfl rfl (at_any A Y 1 (if bcode X x = 0 then (X.deals.length : Int) + 1 else 0) w.heap.size [] _ w w64 (.inl rfl) hGY (WAt.unflip hO65 hKd hPld)) (fun e68 w69 hp70 => ?_)
                        obtain ⟨rfl, hWs⟩ := hp70
                        refine ⟨_, rfl, ?_⟩
                        refine rl_gv rfl rfl rfl rfl rfl (ov_eql rfl rfl rfl) ?_
                        refine rl_gv rfl rfl rfl rfl rfl (ov_move rfl rfl) ?_
                        refine rl_gv rfl rfl rfl rfl rfl (ov_neqB rfl Try.underlying4 rfl rfl) ?_
                        refine rl_v rfl rfl rfl (ov_pick_f rfl rfl rfl) ?_
                        refine rl_v rfl rfl rfl (ov_move rfl rfl) ?_
                        first | refine rl_split_dec 172 rfl (fun xx3 => ?_) (fun xx3 => ?_) | refine rl_split 172 rfl (fun xx3 => ?_) (fun xx3 => ?_)
                        · refine rl_gskip rfl rfl rfl rfl rfl rfl ?_
                          refine rl_gskip rfl rfl rfl rfl rfl rfl ?_
                          refine rl_gskip rfl rfl rfl rfl rfl rfl ?_
                          refine rl_gskip rfl rfl rfl rfl rfl rfl ?_
                          refine rl_gskip rfl rfl rfl rfl rfl rfl ?_
                          refine rl_gskip rfl rfl rfl rfl rfl rfl ?_
                          refine rl_v rfl rfl rfl (ov_pick_t rfl rfl rfl) ?_
                          refine rl_nil ?_
                          -- cond live ['1:l', '5:own', '6:w', '8:i', '179:'], written []
                          exfalso; exact xx3 (decide_eq_decide.2 hr1)
                        · refine rl_gv rfl rfl rfl rfl rfl (ov_move rfl rfl) ?_
                          refine rl_gv rfl rfl rfl rfl rfl (ov_move rfl rfl) ?_
                          refine rl_gcall callable_19 rfl rfl rfl rfl rfl rfl rfl rfl (at_any A Y 2 (if bcode X x = 0 then (X.deals.length : Int) + 1 else 0) w.heap.size [] _ w w69 (.inr rfl) hGY hWs) (fun e72 w73 hp74 => ?_)
                          obtain ⟨rfl, hWt⟩ := hp74
                          refine ⟨_, rfl, ?_⟩
                          refine rl_gv rfl rfl rfl rfl rfl (ov_eql rfl rfl rfl) ?_
                          refine rl_gv rfl rfl rfl rfl rfl (ov_move rfl rfl) ?_
                          refine rl_gv rfl rfl rfl rfl rfl (ov_neqB rfl Try.underlying4 rfl rfl) ?_
                          refine rl_v rfl rfl rfl (ov_pick_f rfl rfl rfl) ?_
                          refine rl_nil ?_
                          first | refine run_cond_dec rfl (fun xx4 => ?_) (fun xx4n => ?_) | refine run_cond rfl (fun xx4 => ?_) (fun xx4n => ?_)
                          · exfalso; exact xx4 (decide_eq_decide.2 hr2)
                          · refine run_skip ?_
                            refine run_inBlock ?_
                            refine run_region ?_
                            refine rl_v rfl rfl rfl (ov_move rfl rfl) ?_
                            refine rl_v rfl rfl rfl (ov_add rfl rfl rfl (by omega)) ?_
                            refine rl_v rfl rfl rfl (ov_assign rfl rfl) ?_
                            refine rl_nil ?_
                            refine Run.use (ih24 (i + 1) (Y) _ ?_ ?_) (And.intro (by first | with_reducible rfl | exact slot_int rfl (by first | omega) | rfl) (And.intro rfl (And.intro rfl (And.intro rfl trivial))))
                            · first | omega | (dsimp only; omega)
                            · exact ⟨by omega, by omega, hY, hWt.drop.drop.drop⟩
      · refine run_exit rfl ?_
        refine run_seq ?_
        refine run_region ?_
        refine rl_call callable_20 rfl rfl rfl rfl rfl rfl (awake_any w.heap.size _ w w23 hW.own) (fun e75 w76 hp77 => ?_)
        obtain ⟨rfl, hOe⟩ := hp77
        refine ⟨_, rfl, ?_⟩
        refine rl_v rfl rfl rfl (ov_assign rfl rfl) ?_
        refine rl_nil ?_
        refine run_ret Try.func3 (res1 Try.results3 rfl) ?_
        exact ⟨rfl, hOe.below⟩
end Go.Proofs.Yteagflekbbchhaa
