import Derived.Test.YtfbbagnpdfafjaaHcW
set_option maxRecDepth 100000
namespace Go.Proofs.Ytfbbagnpdfafjaa
open Go.RowKit Go.Proofs
theorem sameCh (c : Ct) : ∀ f ∈ (Try.prog.fieldsOf 45).toList, ∃ (kk : IntKind) (q : Int), Try.prog.underlying f.type = some (.int kk) ∧ (ctL c).toArray[f.offset]? = some (.int kk q) := by
 unfold Program.fieldsOf
 rw [Try.underlying45]
 intro f hf
 simp only [List.mem_cons, List.not_mem_nil, or_false] at hf
 rcases hf with rfl | rfl | rfl | rfl | rfl
 ·exact ⟨.i64, c.b, Try.underlying3, rfl⟩
 ·exact ⟨.i64, c.s, Try.underlying3, rfl⟩
 ·exact ⟨.i64, c.m, Try.underlying3, rfl⟩
 ·exact ⟨.i64, c.q, Try.underlying2, rfl⟩
 ·exact ⟨.i64, c.p, Try.underlying2, rfl⟩
theorem ov_eqlCh {N : Nat} {o : Oper} {F : Fr} {w : World} {x y : Operand} {U : TypeId} {c : Ct} (ho : o.op = .binOp .eql 45 x y U) (hx : Fr.ev F x = some (.agg (ctL c).toArray)) (hy : Fr.ev F y = some (.agg (ctL c).toArray)) : OpV Try.prog N o F w (.bool true) :=
 ov_eqlS ho (by unfold Program.fieldsOf; rw [Try.underlying45]) (sameCh c) (by kernel_rfl) (by kernel_rfl) hx hy
set_option maxHeartbeats 4000000 in
theorem questions9_any (mm mn : Int) (pa ma la : Option Addr) (pn pc mk mc ln lc : Nat) (rt cp : Int) (P0 : Int → Int) (L0 : Int → Nat) (F0 : Int → Int → Int) (S : HActs) (of0 : Int → Int) (w : World) (hP : IAt w.heap.size w pa pn (fun i => iv (P0 i))) (hT : ITab w.heap.size w ma mk L0 (fun r c => iv (F0 r c))) (hS : SAt w.heap.size w la 7 ln S.l) :
  Calls Try.prog 7 #[.agg (cfL mm mn pa pn pc ma mk mc rt cp).toArray, .slice la ln lc, arrv 4 (fun i => iv (of0 i))] w fun e w' => e = .returned (.bool true) ∧ Below w.heap.size w w' := by
 refine calls_of_run (F := [(0, _), (1, _), (2, _)]) Try.func7 rfl Try.ntmps7 rfl rfl <| run_seq <| run_region <| rl_ow rfl (ow_box _ rfl rfl rfl rfl rfl (Own.init w)) ?_
 rintro _ w1 ⟨b3, rfl, hO2, hs3⟩
 refine rl_ow rfl (ow_boxA rfl rfl rfl rfl hO2) ?_
 rintro _ w4 ⟨b5, rfl, hO5, hs6⟩
 refine rl_v rfl rfl rfl (ov_assign rfl rfl) <| rl_nil <| run_seq <| run_region <| rl_v rfl rfl rfl (ov_loadW rfl Try.underlying25 rfl (by kernel_rfl) rfl hO5 1 rfl) ?_
 refine rl_call callable_15 rfl rfl rfl rfl rfl rfl (tame_any mm mn pa ma pn pc mk mc rt cp P0 L0 F0 w.heap.size _ w w4 hO5 hP hT) (fun e7 w8 hp9 => ?_)
 obtain ⟨mem, mon, pa2, ma2, pc2, k2, mc2, P, F, rate, cap, N, rfl, hC, hO2⟩ := hp9
 refine ⟨_, rfl, ?_⟩
 have hmem := hC.hmem
 refine rl_v rfl rfl rfl (ov_move rfl rfl) ?_
 refine rl_call callable_16 rfl rfl rfl rfl rfl rfl (run_any mem mon pa2 ma2 la pc2 k2 mc2 ln lc P F rate cap 20 S N w.heap.size _ w w8 hO2 (List.sublist_append_left _ _) hC hS (by decide)) (fun e10 w11 hp12 => ?_)
 obtain ⟨hb, X, T, G, rfl, ⟨hX, hsm, _⟩, hI, hH0⟩ := hp12
 refine ⟨_, rfl, ?_⟩
 have hXG := hX.gg (by omega)
 have hG := hXG.g
 have hmo := hXG.mo
 have hk64 := hG.k
 have hmn := X.mn_eq hXG.mo
 obtain ⟨TN, hTN⟩ : ∃ TN, TN = T ++ N := ⟨_, rfl⟩
 obtain ⟨RR, hRR⟩ : ∃ RR, RR = TN ++ [some (lch b3 25 (cfL mm mn pa pn pc ma mk mc rt cp))] := ⟨_, rfl⟩
 have hsI : TN.Sublist RR := by rw [hRR]; exact List.sublist_append_left _ _
 replace hH0 : HAt w.heap.size w w11 hb X [] (TN ++ ([some (vch b5 74 4 (fun i => iv (of0 i)))] ++ [some (lch b3 25 (cfL mm mn pa pn pc ma mk mc rt cp))])) := by rw [hTN, List.append_assoc]; exact hH0
 replace hI : GIn TN X G := by rw [hTN]; exact hI
 obtain ⟨K1, N1, hO3, hK1, hP1⟩ := HAt.pull [some (vch b5 74 4 (fun i => iv (of0 i)))] TN hH0
 rw [← hRR] at hO3
 clear hRR hTN
 refine rl_v rfl rfl rfl (ov_move rfl rfl) <| rl_v rfl rfl rfl (ov_extract rfl rfl (by rfl)) ?_
 refine rl_v rfl rfl rfl (ov_extract rfl rfl (by rfl)) ?_
 refine rl_ow rfl (ow_alloc _ rfl rfl rfl zero_34 rfl hO3) ?_
 rintro _ w13 ⟨b8, rfl, hO14, hs15⟩
 refine rl_v rfl rfl rfl (ov_assign rfl rfl) <| rl_ow rfl (ow_storeW rfl rfl (by kernel_rfl) hO14 0 rfl rfl (by rfl) rfl (by rfl)) ?_
 rintro _ w16 ⟨rfl, hO17, hs18⟩
 have hH1 : HAt w.heap.size w w16 hb X [] ([some (lch b8 34 (ghL X G)), some (vch b5 74 4 (fun i => iv (of0 i)))] ++ RR) := HAt.puts [some (lch b8 34 (ghL X G)), some (vch b5 74 4 (fun i => iv (of0 i)))] hO17 hK1 hP1
 refine rl_nil <| run_seq <| run_seq <| run_region <| rl_v rfl rfl rfl (ov_move rfl rfl) <| rl_v rfl rfl rfl (ov_ptrnil rfl Try.underlying30 rfl) <| rl_nil <| run_cond_f rfl <| run_skip <| run_seq <| run_seq <| run_region <| rl_v rfl rfl rfl (ov_loadW rfl Try.underlying34 rfl (by kernel_rfl) rfl (hH1.own) 0 rfl) ?_
 refine rl_v rfl rfl rfl (ov_indexA1 rfl Try.underlying74 (by kernel_rfl) rfl rfl ⟨by omega, by omega⟩) ?_
 refine rl_v rfl rfl rfl (ov_load rfl Try.underlying3 rfl rfl (by exact (hH1.own).cellI 1 rfl 0 (by decide) (by decide))) ?_
 refine rl_call callable_36 rfl rfl rfl rfl rfl rfl (hH1.call1 (Q := fun e => e = _) (fun H hO _ => gMember_any X G (of0 0) w.heap.size H w w16 hO)) (fun e19 w20 hp21 => ?_)
 obtain ⟨rfl, hH2⟩ := hp21
 refine ⟨_, rfl, ?_⟩
 refine rl_nil <| Run.keep [5, 7, 8, 34] (F' := [(5, _), (7, _), (8, _), (34, _)]) rfl <| run_join1 (fun (g : Int → Int) => []) [5, 7, 8] (fun (g : Int → Int) (w22 : World) => ¬ X.is (g 0) ∧ HAt w.heap.size w w22 hb X [] ([some (lch b8 34 (ghL X G)), some (vch b5 74 4 (fun i => iv (g i)))] ++ RR)) (fun hk23 => ?_) ?_
 ·obtain ⟨K2, N2, hO4, hK2, hP2⟩ := HAt.pull [some (lch b8 34 (ghL X G)), some (vch b5 74 4 (fun i => iv (of0 i)))] [] hH2
  first | refine run_cond_dec rfl (fun c1 => ?_) (fun c1 => ?_) | refine run_cond rfl (fun c1 => ?_) (fun c1 => ?_)
  ·refine run_region <| rl_v rfl rfl rfl (ov_indexA1 rfl Try.underlying74 (by kernel_rfl) rfl rfl ⟨by omega, by omega⟩) ?_
   refine rl_ow rfl (ow_storeI rfl rfl (by kernel_rfl) hO4 1 rfl rfl ⟨by omega, by omega⟩ rfl) ?_
   rintro _ w24 ⟨rfl, hO25, hs26⟩
   refine rl_nil ?_
   refine Run.use (hk23 (upd of0 0 0) _ ?_) (And.intro rfl (And.intro rfl (And.intro rfl trivial)))
   exact ⟨by rw [upd_same]; exact fun h => absurd h.1 (by decide), HAt.puts [some (lch b8 34 (ghL X G)), some (vch b5 74 4 (fun i => iv (upd of0 0 0 i)))] hO25 hK2 hP2⟩
  ·refine run_skip ?_
   refine Run.use (hk23 (of0) _ ?_) (And.intro rfl (And.intro rfl (And.intro rfl trivial)))
   exact ⟨c1, hH2⟩
 ·intro g w22 hJw22
  obtain ⟨hg0, hH3⟩ := hJw22
  show Run _ _ _ _ [(5, _), (7, _), (8, _)] _ _
  refine run_seq <| run_seq <| run_region <| rl_v rfl rfl rfl (ov_loadW rfl Try.underlying34 rfl (by kernel_rfl) rfl (hH3.own) 0 rfl) ?_
  refine rl_v rfl rfl rfl (ov_indexA1 rfl Try.underlying74 (by kernel_rfl) rfl rfl ⟨by omega, by omega⟩) ?_
  refine rl_v rfl rfl rfl (ov_load rfl Try.underlying3 rfl rfl (by exact (hH3.own).cellI 1 rfl 1 (by decide) (by decide))) ?_
  refine rl_call callable_37 rfl rfl rfl rfl rfl rfl (hH3.call1 (Q := fun e => e = _) (fun H hO _ => gMonth_any X G (g 1) w.heap.size H w w22 hO hmo)) (fun e27 w28 hp29 => ?_)
  obtain ⟨rfl, hH4⟩ := hp29
  refine ⟨_, rfl, ?_⟩
  refine rl_nil <| Run.keep [5, 7, 8, 39] (F' := [(5, _), (7, _), (8, _), (39, _)]) rfl <| run_join1 (fun (q : Int → Int) => []) [5, 7, 8] (fun (q : Int → Int) (w30 : World) => (¬ X.is (q 0) ∧ ¬ X.hasM (q 1)) ∧ HAt w.heap.size w w30 hb X [] ([some (lch b8 34 (ghL X G)), some (vch b5 74 4 (fun i => iv (q i)))] ++ RR)) (fun hk31 => ?_) ?_
  ·obtain ⟨K2, N2, hO4, hK2, hP2⟩ := HAt.pull [some (lch b8 34 (ghL X G)), some (vch b5 74 4 (fun i => iv (g i)))] [] hH4
   first | refine run_cond_dec rfl (fun c1 => ?_) (fun c1 => ?_) | refine run_cond rfl (fun c1 => ?_) (fun c1 => ?_)
   ·refine run_region <| rl_v rfl rfl rfl (ov_indexA1 rfl Try.underlying74 (by kernel_rfl) rfl rfl ⟨by omega, by omega⟩) ?_
    refine rl_ow rfl (ow_storeI rfl rfl (by kernel_rfl) hO4 1 rfl rfl ⟨by omega, by omega⟩ rfl) ?_
    rintro _ w32 ⟨rfl, hO33, hs34⟩
    refine rl_nil ?_
    refine Run.use (hk31 (upd g 1 (-1)) _ ?_) (And.intro rfl (And.intro rfl (And.intro rfl trivial)))
    exact ⟨⟨by rw [upd_ne _ _ (by decide)]; exact hg0, by rw [upd_same]; exact fun h => absurd h.1 (by decide)⟩, HAt.puts [some (lch b8 34 (ghL X G)), some (vch b5 74 4 (fun i => iv (upd g 1 (-1) i)))] hO33 hK2 hP2⟩
   ·refine run_skip ?_
    refine Run.use (hk31 (g) _ ?_) (And.intro rfl (And.intro rfl (And.intro rfl trivial)))
    exact ⟨⟨hg0, c1⟩, hH4⟩
  ·intro q w30 hJw30
   obtain ⟨hq0, hH5⟩ := hJw30
   show Run _ _ _ _ [(5, _), (7, _), (8, _)] _ _
   refine run_seq <| run_seq <| run_region_join 51 (.bool (decide (1 ≤ q 2 ∧ q 2 ≤ (X.n : Int)))) [5, 7, 8] (fun hk35 => ?_) ?_
   ·refine rl_v rfl rfl rfl (ov_indexA1 rfl Try.underlying74 (by kernel_rfl) rfl rfl ⟨by omega, by omega⟩) ?_
    refine rl_v rfl rfl rfl (ov_load rfl Try.underlying3 rfl rfl (by exact (hH5.own).cellI 1 rfl 2 (by decide) (by decide))) ?_
    refine rl_v rfl rfl rfl (ov_geq rfl rfl rfl) <| rl_v rfl rfl rfl (ov_move rfl rfl) ?_
    first | refine rl_split_dec 44 rfl (fun j1 => ?_) (fun j1 => ?_) | refine rl_split 44 rfl (fun j1 => ?_) (fun j1 => ?_)
    ·refine rl_gv rfl rfl rfl rfl rfl (ov_indexA1 rfl Try.underlying74 (by kernel_rfl) rfl rfl ⟨by omega, by omega⟩) ?_
     refine rl_gv rfl rfl rfl rfl rfl (ov_load rfl Try.underlying3 rfl rfl (by exact (hH5.own).cellI 1 rfl 2 (by decide) (by decide))) ?_
     refine rl_gv rfl rfl rfl rfl rfl (ov_fieldS rfl Try.underlying34 rfl (fo := 8) rfl (by kernel_rfl) rfl) ?_
     refine rl_gv rfl rfl rfl rfl rfl (ov_load rfl Try.underlying32 rfl rfl (by exact (hH5.own).cellL 0 rfl (off := 8) rfl)) ?_
     refine rl_gv rfl rfl rfl rfl rfl (ov_len rfl Try.underlying32 rfl) <| rl_gv rfl rfl rfl rfl rfl (ov_leq rfl rfl rfl) <| rl_v rfl rfl rfl (ov_pick_t rfl rfl rfl) ?_
     refine rl_nil (hk35 _ (jbd rfl (by omega)) (And.intro rfl (And.intro rfl (And.intro rfl trivial))))
    ·refine rl_gskip rfl rfl rfl rfl rfl rfl <| rl_gskip rfl rfl rfl rfl rfl rfl <| rl_gskip rfl rfl rfl rfl rfl rfl <| rl_gskip rfl rfl rfl rfl rfl rfl <| rl_gskip rfl rfl rfl rfl rfl rfl <| rl_gskip rfl rfl rfl rfl rfl rfl <| rl_v rfl rfl rfl (ov_pick_f rfl rfl rfl) ?_
     refine rl_nil (hk35 _ (jbf rfl (by omega)) (And.intro rfl (And.intro rfl (And.intro rfl trivial))))
   ·show Run _ _ _ _ [(51, _), (5, _), (7, _), (8, _)] _ _
    refine Run.keep [5, 7, 8, 51] (F' := [(5, _), (7, _), (8, _), (51, _)]) rfl <| run_join1 (fun (r : Int → Int) => []) [5, 7, 8] (fun (r : Int → Int) (w37 : World) => (¬ X.is (r 0) ∧ ¬ X.hasM (r 1) ∧ ¬ X.hasC (r 2)) ∧ HAt w.heap.size w w37 hb X [] ([some (lch b8 34 (ghL X G)), some (vch b5 74 4 (fun i => iv (r i)))] ++ RR)) (fun hk38 => ?_) ?_
    ·obtain ⟨K2, N2, hO4, hK2, hP2⟩ := HAt.pull [some (lch b8 34 (ghL X G)), some (vch b5 74 4 (fun i => iv (q i)))] [] hH5
     first | refine run_cond_dec rfl (fun c1 => ?_) (fun c1 => ?_) | refine run_cond rfl (fun c1 => ?_) (fun c1 => ?_)
     ·refine run_region <| rl_v rfl rfl rfl (ov_indexA1 rfl Try.underlying74 (by kernel_rfl) rfl rfl ⟨by omega, by omega⟩) ?_
      refine rl_ow rfl (ow_storeI rfl rfl (by kernel_rfl) hO4 1 rfl rfl ⟨by omega, by omega⟩ rfl) ?_
      rintro _ w39 ⟨rfl, hO40, hs41⟩
      refine rl_nil ?_
      refine Run.use (hk38 (upd q 2 0) _ ?_) (And.intro rfl (And.intro rfl (And.intro rfl trivial)))
      exact ⟨⟨by rw [upd_ne _ _ (by decide)]; exact hq0.1, by rw [upd_ne _ _ (by decide)]; exact hq0.2, by rw [upd_same]; exact fun h => absurd h.1 (by decide)⟩, HAt.puts [some (lch b8 34 (ghL X G)), some (vch b5 74 4 (fun i => iv (upd q 2 0 i)))] hO40 hK2 hP2⟩
     ·refine run_skip ?_
      refine Run.use (hk38 (q) _ ?_) (And.intro rfl (And.intro rfl (And.intro rfl trivial)))
      exact ⟨⟨hq0.1, hq0.2, c1⟩, hH5⟩
    ·intro r w37 hJw37
     obtain ⟨hr0, hH6⟩ := hJw37
     show Run _ _ _ _ [(5, _), (7, _), (8, _)] _ _
     refine run_seq <| run_seq <| run_region_join 64 (.bool (decide (0 ≤ r 3 ∧ r 3 < (X.k : Int)))) [5, 7, 8] (fun hk42 => ?_) ?_
     ·refine rl_v rfl rfl rfl (ov_indexA1 rfl Try.underlying74 (by kernel_rfl) rfl rfl ⟨by omega, by omega⟩) ?_
      refine rl_v rfl rfl rfl (ov_load rfl Try.underlying3 rfl rfl (by exact (hH6.own).cellI 1 rfl 3 (by decide) (by decide))) ?_
      refine rl_v rfl rfl rfl (ov_geq rfl rfl rfl) <| rl_v rfl rfl rfl (ov_move rfl rfl) ?_
      first | refine rl_split_dec 56 rfl (fun j1 => ?_) (fun j1 => ?_) | refine rl_split 56 rfl (fun j1 => ?_) (fun j1 => ?_)
      ·refine rl_gv rfl rfl rfl rfl rfl (ov_indexA1 rfl Try.underlying74 (by kernel_rfl) rfl rfl ⟨by omega, by omega⟩) ?_
       refine rl_gv rfl rfl rfl rfl rfl (ov_load rfl Try.underlying3 rfl rfl (by exact (hH6.own).cellI 1 rfl 3 (by decide) (by decide))) ?_
       refine rl_gv rfl rfl rfl rfl rfl (ov_fieldS rfl Try.underlying34 rfl (fo := 0) rfl (by kernel_rfl) rfl) ?_
       refine rl_gv rfl rfl rfl rfl rfl (ov_fieldS rfl Try.underlying25 rfl (fo := 3) rfl (by kernel_rfl) rfl) ?_
       refine rl_gv rfl rfl rfl rfl rfl (ov_load rfl Try.underlying23 rfl rfl (by exact (hH6.own).cellL 0 rfl (off := 3) rfl)) ?_
       refine rl_gv rfl rfl rfl rfl rfl (ov_len rfl Try.underlying23 rfl) <| rl_gv rfl rfl rfl rfl rfl (ov_lss rfl rfl rfl) <| rl_v rfl rfl rfl (ov_pick_t rfl rfl rfl) ?_
       refine rl_nil (hk42 _ (jbd rfl (by omega)) (And.intro rfl (And.intro rfl (And.intro rfl trivial))))
      ·refine rl_gskip rfl rfl rfl rfl rfl rfl <| rl_gskip rfl rfl rfl rfl rfl rfl <| rl_gskip rfl rfl rfl rfl rfl rfl <| rl_gskip rfl rfl rfl rfl rfl rfl <| rl_gskip rfl rfl rfl rfl rfl rfl <| rl_gskip rfl rfl rfl rfl rfl rfl <| rl_gskip rfl rfl rfl rfl rfl rfl <| rl_v rfl rfl rfl (ov_pick_f rfl rfl rfl) ?_
       refine rl_nil (hk42 _ (jbf rfl (by omega)) (And.intro rfl (And.intro rfl (And.intro rfl trivial))))
     ·show Run _ _ _ _ [(64, _), (5, _), (7, _), (8, _)] _ _
      refine Run.keep [5, 7, 8, 64] (F' := [(5, _), (7, _), (8, _), (64, _)]) rfl <| run_join1 (fun (s : Int → Int) => []) [5, 7, 8] (fun (s : Int → Int) (w44 : World) => (¬ X.is (s 0) ∧ ¬ X.hasM (s 1) ∧ ¬ X.hasC (s 2) ∧ ¬ X.hasS (s 3)) ∧ HAt w.heap.size w w44 hb X [] ([some (lch b8 34 (ghL X G)), some (vch b5 74 4 (fun i => iv (s i)))] ++ RR)) (fun hk45 => ?_) ?_
      ·obtain ⟨K2, N2, hO4, hK2, hP2⟩ := HAt.pull [some (lch b8 34 (ghL X G)), some (vch b5 74 4 (fun i => iv (r i)))] [] hH6
       first | refine run_cond_dec rfl (fun c1 => ?_) (fun c1 => ?_) | refine run_cond rfl (fun c1 => ?_) (fun c1 => ?_)
       ·refine run_region <| rl_v rfl rfl rfl (ov_fieldS rfl Try.underlying34 rfl (fo := 0) rfl (by kernel_rfl) rfl) ?_
        refine rl_v rfl rfl rfl (ov_fieldS rfl Try.underlying25 rfl (fo := 3) rfl (by kernel_rfl) rfl) ?_
        refine rl_v rfl rfl rfl (ov_load rfl Try.underlying23 rfl rfl (by exact hO4.cellL 0 rfl (off := 3) rfl)) ?_
        refine rl_v rfl rfl rfl (ov_len rfl Try.underlying23 rfl) <| rl_v rfl rfl rfl (ov_indexA1 rfl Try.underlying74 (by kernel_rfl) rfl rfl ⟨by omega, by omega⟩) ?_
        refine rl_ow rfl (ow_storeI rfl rfl (by kernel_rfl) hO4 1 rfl rfl ⟨by omega, by omega⟩ rfl) ?_
        rintro _ w46 ⟨rfl, hO47, hs48⟩
        refine rl_nil ?_
        refine Run.use (hk45 (upd r 3 (X.k : Int)) _ ?_) (And.intro rfl (And.intro rfl (And.intro rfl trivial)))
        exact ⟨⟨by rw [upd_ne _ _ (by decide)]; exact hr0.1, by rw [upd_ne _ _ (by decide)]; exact hr0.2.1, by rw [upd_ne _ _ (by decide)]; exact hr0.2.2, by rw [upd_same]; exact fun h => absurd h.2 (Int.lt_irrefl _)⟩, HAt.puts [some (lch b8 34 (ghL X G)), some (vch b5 74 4 (fun i => iv (upd r 3 (X.k : Int) i)))] hO47 hK2 hP2⟩
       ·refine run_skip ?_
        refine Run.use (hk45 (r) _ ?_) (And.intro rfl (And.intro rfl (And.intro rfl trivial)))
        exact ⟨⟨hr0.1, hr0.2.1, hr0.2.2, c1⟩, hH6⟩
      ·intro s w44 hJw44
       obtain ⟨hs0, hH7⟩ := hJw44
       show Run _ _ _ _ [(5, _), (7, _), (8, _)] _ _
       refine run_seq <| run_region <| rl_v rfl rfl rfl (ov_move rfl rfl) <| rl_v rfl rfl rfl (ov_indexA1 rfl Try.underlying74 (by kernel_rfl) rfl rfl ⟨by omega, by omega⟩) ?_
       refine rl_v rfl rfl rfl (ov_load rfl Try.underlying3 rfl rfl (by exact (hH7.own).cellI 1 rfl 0 (by decide) (by decide))) ?_
       refine rl_call callable_31 rfl rfl rfl rfl rfl rfl (account_out hb w.heap.size X [] _ w w44 hH7 hG (s 0) hs0.1) (fun e49 w50 hp51 => ?_)
       obtain ⟨va, ca, rfl, hra, hH8⟩ := hp51
       refine ⟨_, rfl, ?_⟩
       obtain ⟨aa, pa9, rfl⟩ := hra.val
       obtain ⟨K3, N3, hO5, hK3, hP3⟩ := hH8.open
       refine rl_v rfl rfl rfl (ov_move rfl rfl) <| rl_v rfl rfl rfl (ov_extract rfl rfl (by rfl)) ?_
       refine rl_v rfl rfl rfl (ov_extract rfl rfl (by rfl)) ?_
       refine rl_ow rfl (ow_alloc _ rfl rfl rfl zero_64 rfl hO5) ?_
       rintro _ w52 ⟨b9, rfl, hO53, hs54⟩
       refine rl_ow rfl (ow_storeW rfl rfl (by kernel_rfl) hO53 0 rfl rfl (by rfl) rfl (by rfl)) ?_
       rintro _ w55 ⟨rfl, hO56, hs57⟩
       have hH9 := HAt.puts [some (lch b9 64 [iv 0, iv 0, .slice aa 0 pa9, .bool false])] hO56 hK3 hP3
       refine rl_v rfl rfl rfl (ov_assign rfl rfl) <| rl_nil <| run_seq <| run_region <| rl_v rfl rfl rfl (ov_move rfl rfl) <| rl_v rfl rfl rfl (ov_indexA1 rfl Try.underlying74 (by kernel_rfl) rfl rfl ⟨by omega, by omega⟩) ?_
       refine rl_v rfl rfl rfl (ov_load rfl Try.underlying3 rfl rfl (by exact (hH9.own).cellI 3 rfl 0 (by decide) (by decide))) ?_
       refine rl_call callable_24 rfl rfl rfl rfl rfl rfl (margin_out hb w.heap.size X [] _ w w55 hH9 hG (s 0) hs0.1) (fun e58 w59 hp60 => ?_)
       obtain ⟨rfl, hH10⟩ := hp60
       refine ⟨_, rfl, ?_⟩
       refine rl_v rfl rfl rfl (ov_move rfl rfl) <| rl_v rfl rfl rfl (ov_extract rfl rfl (by rfl)) ?_
       refine rl_v rfl rfl rfl (ov_extract rfl rfl (by rfl)) ?_
       refine rl_v rfl rfl rfl (ov_assign rfl rfl) <| rl_v rfl rfl rfl (ov_assign rfl rfl) <| rl_nil <| run_seq <| run_region <| rl_v rfl rfl rfl (ov_move rfl rfl) <| rl_v rfl rfl rfl (ov_indexA1 rfl Try.underlying74 (by kernel_rfl) rfl rfl ⟨by omega, by omega⟩) ?_
       refine rl_v rfl rfl rfl (ov_load rfl Try.underlying3 rfl rfl (by exact (hH10.own).cellI 3 rfl 0 (by decide) (by decide))) ?_
       refine rl_call callable_38 rfl rfl rfl rfl rfl rfl (worst_out hb w.heap.size X [] _ w w59 hH10 hG (s 0) hs0.1) (fun e61 w62 hp63 => ?_)
       obtain ⟨rfl, hH11⟩ := hp63
       refine ⟨_, rfl, ?_⟩
       refine rl_v rfl rfl rfl (ov_move rfl rfl) <| rl_v rfl rfl rfl (ov_extract rfl rfl (by rfl)) ?_
       refine rl_v rfl rfl rfl (ov_extract rfl rfl (by rfl)) ?_
       refine rl_v rfl rfl rfl (ov_extract rfl rfl (by rfl)) ?_
       refine rl_v rfl rfl rfl (ov_assign rfl rfl) <| rl_v rfl rfl rfl (ov_assign rfl rfl) <| rl_v rfl rfl rfl (ov_assign rfl rfl) <| rl_nil <| run_seq <| run_region <| rl_v rfl rfl rfl (ov_move rfl rfl) <| rl_v rfl rfl rfl (ov_indexA1 rfl Try.underlying74 (by kernel_rfl) rfl rfl ⟨by omega, by omega⟩) ?_
       refine rl_v rfl rfl rfl (ov_load rfl Try.underlying3 rfl rfl (by exact (hH11.own).cellI 3 rfl 1 (by decide) (by decide))) ?_
       refine rl_call callable_20 rfl rfl rfl rfl rfl rfl (price_out hb w.heap.size X [] _ w w62 hH11 hG (s 1) hs0.2.1) (fun e64 w65 hp66 => ?_)
       obtain ⟨rfl, hH12⟩ := hp66
       refine ⟨_, rfl, ?_⟩
       refine rl_v rfl rfl rfl (ov_move rfl rfl) <| rl_v rfl rfl rfl (ov_extract rfl rfl (by rfl)) ?_
       refine rl_v rfl rfl rfl (ov_extract rfl rfl (by rfl)) ?_
       refine rl_v rfl rfl rfl (ov_assign rfl rfl) <| rl_v rfl rfl rfl (ov_assign rfl rfl) <| rl_nil <| run_seq <| run_region <| rl_v rfl rfl rfl (ov_move rfl rfl) <| rl_v rfl rfl rfl (ov_indexA1 rfl Try.underlying74 (by kernel_rfl) rfl rfl ⟨by omega, by omega⟩) ?_
       refine rl_v rfl rfl rfl (ov_load rfl Try.underlying3 rfl rfl (by exact (hH12.own).cellI 3 rfl 2 (by decide) (by decide))) ?_
       refine rl_call callable_39 rfl rfl rfl rfl rfl rfl (contract_out hb w.heap.size X [] _ w w65 hH12 hG (s 2) hs0.2.2.1) (fun e67 w68 hp69 => ?_)
       obtain ⟨rfl, hH13⟩ := hp69
       refine ⟨_, rfl, ?_⟩
       obtain ⟨K4, N4, hO6, hK4, hP4⟩ := hH13.open
       refine rl_v rfl rfl rfl (ov_move rfl rfl) <| rl_v rfl rfl rfl (ov_extract rfl rfl (by rfl)) ?_
       refine rl_v rfl rfl rfl (ov_extract rfl rfl (by rfl)) ?_
       refine rl_ow rfl (ow_alloc _ rfl rfl rfl zero_45 rfl hO6) ?_
       rintro _ w70 ⟨b18, rfl, hO71, hs72⟩
       refine rl_ow rfl (ow_storeW rfl rfl (by kernel_rfl) hO71 0 rfl rfl (by rfl) rfl (by rfl)) ?_
       rintro _ w73 ⟨rfl, hO74, hs75⟩
       have hH14 := HAt.puts [some (lch b18 45 (ctL Ct.z))] hO74 hK4 hP4
       refine rl_v rfl rfl rfl (ov_assign rfl rfl) <| rl_nil <| run_seq <| run_region <| rl_v rfl rfl rfl (ov_move rfl rfl) <| rl_v rfl rfl rfl (ov_indexA1 rfl Try.underlying74 (by kernel_rfl) rfl rfl ⟨by omega, by omega⟩) ?_
       refine rl_v rfl rfl rfl (ov_load rfl Try.underlying3 rfl rfl (by exact (hH14.own).cellI 4 rfl 3 (by decide) (by decide))) ?_
       refine rl_call callable_40 rfl rfl rfl rfl rfl rfl (stress_out hb w.heap.size X [] _ w w73 hH14 hG (s 3) hs0.2.2.2) (fun e76 w77 hp78 => ?_)
       obtain ⟨vs, cs, rfl, hrs, hH15⟩ := hp78
       refine ⟨_, rfl, ?_⟩
       obtain ⟨as4, ps, rfl⟩ := hrs.val
       refine rl_v rfl rfl rfl (ov_move rfl rfl) <| rl_v rfl rfl rfl (ov_extract rfl rfl (by rfl)) ?_
       refine rl_v rfl rfl rfl (ov_extract rfl rfl (by rfl)) ?_
       refine rl_v rfl rfl rfl (ov_assign rfl rfl) <| rl_v rfl rfl rfl (ov_assign rfl rfl) <| rl_nil <| run_seq <| run_region <| rl_v rfl rfl rfl (ov_move rfl rfl) <| rl_v rfl rfl rfl (ov_eql rfl rfl rfl) <| rl_v rfl rfl rfl (ov_move rfl rfl) ?_
       first | refine rl_yesD 115 rfl (rfl) ?_ | refine rl_yes 115 rfl (rfl) ?_
       refine rl_gv rfl rfl rfl rfl rfl (ov_move rfl rfl) <| rl_gv rfl rfl rfl rfl rfl (ov_eql rfl rfl rfl) <| rl_v rfl rfl rfl (ov_pick_t rfl rfl rfl) <| rl_v rfl rfl rfl (ov_move rfl rfl) ?_
       first | refine rl_yesD 119 rfl (rfl) ?_ | refine rl_yes 119 rfl (rfl) ?_
       refine rl_gv rfl rfl rfl rfl rfl (ov_move rfl rfl) <| rl_gv rfl rfl rfl rfl rfl (ov_eql rfl rfl rfl) <| rl_v rfl rfl rfl (ov_pick_t rfl rfl rfl) <| rl_v rfl rfl rfl (ov_move rfl rfl) ?_
       first | refine rl_yesD 123 rfl (rfl) ?_ | refine rl_yes 123 rfl (rfl) ?_
       refine rl_gv rfl rfl rfl rfl rfl (ov_move rfl rfl) <| rl_gv rfl rfl rfl rfl rfl (ov_eql rfl rfl rfl) <| rl_v rfl rfl rfl (ov_pick_t rfl rfl rfl) <| rl_v rfl rfl rfl (ov_move rfl rfl) ?_
       first | refine rl_yesD 127 rfl (rfl) ?_ | refine rl_yes 127 rfl (rfl) ?_
       refine rl_gv rfl rfl rfl rfl rfl (ov_move rfl rfl) <| rl_gv rfl rfl rfl rfl rfl (ov_eql rfl rfl rfl) <| rl_v rfl rfl rfl (ov_pick_t rfl rfl rfl) <| rl_v rfl rfl rfl (ov_move rfl rfl) ?_
       first | refine rl_yesD 131 rfl (rfl) ?_ | refine rl_yes 131 rfl (rfl) ?_
       refine rl_gv rfl rfl rfl rfl rfl (ov_move rfl rfl) <| rl_gv rfl rfl rfl rfl rfl (ov_eql rfl rfl rfl) <| rl_v rfl rfl rfl (ov_pick_t rfl rfl rfl) <| rl_v rfl rfl rfl (ov_move rfl rfl) ?_
       first | refine rl_yesD 135 rfl (rfl) ?_ | refine rl_yes 135 rfl (rfl) ?_
       refine rl_gv rfl rfl rfl rfl rfl (ov_fieldS rfl Try.underlying64 rfl (fo := 0) rfl (by kernel_rfl) rfl) ?_
       refine rl_gv rfl rfl rfl rfl rfl (ov_load rfl Try.underlying2 rfl rfl (by exact (show _ = some (iv 0) from (hH15.own).cellL 2 rfl (off := 0) rfl))) ?_
       refine rl_gv rfl rfl rfl rfl rfl (ov_eql rfl rfl rfl) <| rl_v rfl rfl rfl (ov_pick_t rfl rfl rfl) <| rl_v rfl rfl rfl (ov_move rfl rfl) ?_
       first | refine rl_yesD 140 rfl (rfl) ?_ | refine rl_yes 140 rfl (rfl) ?_
       refine rl_gv rfl rfl rfl rfl rfl (ov_fieldS rfl Try.underlying64 rfl (fo := 2) rfl (by kernel_rfl) rfl) ?_
       refine rl_gv rfl rfl rfl rfl rfl (ov_load rfl Try.underlying22 rfl rfl (by exact (show _ = some (.slice aa 0 pa9) from (hH15.own).cellL 2 rfl (off := 2) rfl))) ?_
       refine rl_gv rfl rfl rfl rfl rfl (ov_len rfl Try.underlying22 rfl) <| rl_gv rfl rfl rfl rfl rfl (ov_eql rfl rfl rfl) <| rl_v rfl rfl rfl (ov_pick_t rfl rfl rfl) <| rl_v rfl rfl rfl (ov_move rfl rfl) ?_
       first | refine rl_yesD 146 rfl (rfl) ?_ | refine rl_yes 146 rfl (rfl) ?_
       refine rl_gv rfl rfl rfl rfl rfl (ov_move rfl rfl) <| rl_gv rfl rfl rfl rfl rfl (ov_eql rfl rfl rfl) <| rl_v rfl rfl rfl (ov_pick_t rfl rfl rfl) <| rl_v rfl rfl rfl (ov_move rfl rfl) ?_
       first | refine rl_yesD 150 rfl (rfl) ?_ | refine rl_yes 150 rfl (rfl) ?_
       refine rl_gv rfl rfl rfl rfl rfl (ov_move rfl rfl) <| rl_gv rfl rfl rfl rfl rfl (ov_eql rfl rfl rfl) <| rl_v rfl rfl rfl (ov_pick_t rfl rfl rfl) <| rl_v rfl rfl rfl (ov_move rfl rfl) ?_
       first | refine rl_yesD 154 rfl (rfl) ?_ | refine rl_yes 154 rfl (rfl) ?_
       refine rl_gv rfl rfl rfl rfl rfl (ov_move rfl rfl) <| rl_gv rfl rfl rfl rfl rfl (ov_eql rfl rfl rfl) <| rl_v rfl rfl rfl (ov_pick_t rfl rfl rfl) <| rl_v rfl rfl rfl (ov_move rfl rfl) ?_
       first | refine rl_yesD 158 rfl (rfl) ?_ | refine rl_yes 158 rfl (rfl) ?_
       refine rl_gv rfl rfl rfl rfl rfl (ov_move rfl rfl) <| rl_gv rfl rfl rfl rfl rfl (ov_eql rfl rfl rfl) <| rl_v rfl rfl rfl (ov_pick_t rfl rfl rfl) <| rl_v rfl rfl rfl (ov_move rfl rfl) ?_
       first | refine rl_yesD 162 rfl (rfl) ?_ | refine rl_yes 162 rfl (rfl) ?_
       refine rl_gv rfl rfl rfl rfl rfl (ov_loadW rfl Try.underlying45 rfl (by kernel_rfl) rfl (hH15.own) 1 rfl) ?_
       refine rl_gv rfl rfl rfl rfl rfl (ov_buildL rfl lay_45 rfl (us := [_, _, _, _, _]) rfl) <| rl_gv rfl rfl rfl rfl rfl (ov_eqlCh (c := Ct.z) rfl rfl rfl) <| rl_v rfl rfl rfl (ov_pick_t rfl rfl rfl) <| rl_v rfl rfl rfl (ov_move rfl rfl) ?_
       first | refine rl_yesD 167 rfl (rfl) ?_ | refine rl_yes 167 rfl (rfl) ?_
       refine rl_gv rfl rfl rfl rfl rfl (ov_move rfl rfl) <| rl_gv rfl rfl rfl rfl rfl (ov_len rfl Try.underlying22 rfl) <| rl_gv rfl rfl rfl rfl rfl (ov_eql rfl rfl rfl) <| rl_v rfl rfl rfl (ov_pick_t rfl rfl rfl) <| rl_v rfl rfl rfl (ov_move rfl rfl) ?_
       first | refine rl_yesD 172 rfl (rfl) ?_ | refine rl_yes 172 rfl (rfl) ?_
       refine rl_gv rfl rfl rfl rfl rfl (ov_move rfl rfl) <| rl_gv rfl rfl rfl rfl rfl (ov_loadW rfl Try.underlying34 rfl (by kernel_rfl) rfl (hH15.own) 4 rfl) ?_
       refine rl_gcall callable_35 rfl rfl rfl rfl rfl rfl rfl rfl (shows_any hb w.heap.size X G [] TN _ w w77 hH15 hI (.cons _ (.cons _ (.cons _ (.cons _ (.cons _ (.cons _ hsI)))))) hXG) (fun e79 w80 hp81 => ?_)
       obtain ⟨rfl, hH16⟩ := hp81
       refine ⟨_, rfl, ?_⟩
       refine rl_v rfl rfl rfl (ov_pick_t rfl rfl rfl) <| rl_v rfl rfl rfl (ov_move rfl rfl) ?_
       first | refine rl_yesD 177 rfl (rfl) ?_ | refine rl_yes 177 rfl (rfl) ?_
       refine rl_gcall callable_21 rfl rfl rfl rfl rfl rfl rfl rfl (hH16.call1 (Q := fun e => e = _) (fun H hO _ => awake_any w.heap.size H w w80 hO)) (fun e82 w83 hp84 => ?_)
       obtain ⟨rfl, hH17⟩ := hp84
       refine ⟨_, rfl, ?_⟩
       refine rl_v rfl rfl rfl (ov_pick_t rfl rfl rfl) <| rl_v rfl rfl rfl (ov_assign rfl rfl) <| rl_nil <| run_ret Try.func7 (res1 Try.results7 rfl) ?_
       exact ⟨rfl, (hH17.own).below⟩
end Go.Proofs.Ytfbbagnpdfafjaa
