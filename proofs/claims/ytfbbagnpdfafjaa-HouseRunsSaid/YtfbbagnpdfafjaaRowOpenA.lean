import Derived.Test.YtfbbagnpdfafjaaHcP
import Derived.Test.YtfbbagnpdfafjaaEff
import Derived.Test.YtfbbagnpdfafjaaTab
import Derived.Test.YtfbbagnpdfafjaaChecked
import Derived.Test.YtfbbagnpdfafjaaRows
import Derived.ProofKit
import Derived.SizedLaws
import Derived.Deep.Modes
import Derived.Deep.Frames
import Derived.Deep.Matrix
import Derived.Carry
import Derived.Lib.SmallJoins
set_option maxRecDepth 100000
namespace Go.Proofs.Ytfbbagnpdfafjaa
open Go.RowKit Go.Proofs
theorem HAt.refN {f : FuncId} {args : Array Value} {B : Nat} {w0 w : World} {hb : Nat} {X Y : HM} {Pl R R0 : List (Option Blk)} (h : HAt B w0 w hb X Pl R) (hs : R0.Sublist R)
  (hc : ∀ H, Own B w0 w H → R0.Sublist H → Calls Try.prog f args w fun e w' => ∃ v, e = .returned v ∧ GNew B w0 w' v Y R0 H) :
  Calls Try.prog f args w fun e w' => ∃ T L, e = .returned (.agg (ghL Y L).toArray) ∧ GIn (T ++ R0) Y L ∧ HAt B w0 w' hb X Pl (T ++ R) := by
 obtain ⟨K1, N, hO, hK1, hPl⟩ := h
 refine (hc _ hO (.cons _ (.cons _ (hs.trans (List.sublist_append_right _ _))))).mono fun e w' ⟨v, h1, h2⟩ => ?_
 obtain ⟨L, pb, ab, cb, qb, rfl, hG, hO2⟩ := h2
 exact ⟨pb :: ab :: cb :: (List.range Y.mem).map qb, L, h1, hG.gin (.refl _), K1, N, hO2.perm (perm_in (pb :: ab :: cb :: (List.range Y.mem).map qb) N R), hK1, hPl⟩
set_option maxHeartbeats 2000000 in
theorem runs_any (mm mn : Int) (pa ma la : Option Addr) (pn pc mk mc ln lc : Nat) (rt cp : Int) (P0 : Int → Int) (L0 : Int → Nat) (F0 : Int → Int → Int) (S : HActs) (w : World) (hP : IAt w.heap.size w pa pn (fun i => iv (P0 i))) (hT : ITab w.heap.size w ma mk L0 (fun r c => iv (F0 r c))) (hS : SAt w.heap.size w la 7 ln S.l) :
  Calls Try.prog 6 #[.agg (cfL mm mn pa pn pc ma mk mc rt cp).toArray, .slice la ln lc] w fun e w' => e = .returned (.bool true) ∧ Below w.heap.size w w' := by
 obtain ⟨lb, loff, hla, hrow⟩ := hS.open (by decide)
 refine calls_of_run (F := [(0, _), (1, _)]) Try.func6 rfl Try.ntmps6 rfl rfl <| run_seq <| run_region <| rl_ow rfl (ow_box _ rfl rfl rfl rfl rfl (Own.init w)) ?_
 rintro _ w1 ⟨b2, rfl, hO2, hs3⟩
 refine rl_v rfl rfl rfl (ov_assign rfl rfl) <| rl_nil <| run_seq <| run_region <| rl_v rfl rfl rfl (ov_loadW rfl Try.underlying25 rfl (by kernel_rfl) rfl hO2 0 rfl) ?_
 refine rl_call callable_15 rfl rfl rfl rfl rfl rfl (tame_any mm mn pa ma pn pc mk mc rt cp P0 L0 F0 w.heap.size _ w w1 hO2 hP hT) (fun e4 w5 hp6 => ?_)
 obtain ⟨mem, mon, pa2, ma2, pc2, k2, mc2, P, F, rate, cap, N, rfl, hC, hO2⟩ := hp6
 refine ⟨_, rfl, ?_⟩
 have hmem := hC.hmem
 have hmon := hC.hmon
 have hk := hC.hk
 have hrate := hC.hrate
 have hcap := hC.hcap
 refine rl_ow rfl (ow_alloc _ rfl rfl rfl zero_25 rfl hO2) ?_
 rintro _ w7 ⟨b5, rfl, hO8, hs9⟩
 refine rl_ow rfl (ow_storeW rfl rfl (by kernel_rfl) hO8 0 rfl rfl (by rfl) rfl (by rfl)) ?_
 rintro _ w10 ⟨rfl, hO11, hs12⟩
 refine rl_nil <| run_seq <| run_region <| rl_v rfl rfl rfl (ov_loadW rfl Try.underlying25 rfl (by kernel_rfl) rfl hO11 0 rfl) ?_
 refine rl_call callable_18 rfl rfl rfl rfl rfl rfl (give_any mem mon pa2 ma2 mon.toNat pc2 k2 mc2 rate cap P (fun _ => mon.toNat) F w.heap.size _ w w10 hO11 (CfRd.of_src hC.hpc hC.ps hC.ms (.cons _ (List.sublist_append_left _ _)))) (fun e13 w14 hp15 => ?_)
 obtain ⟨pa3, ma3, pc3, mc3, N3, rfl, hN3, hO3⟩ := hp15
 refine ⟨_, rfl, ?_⟩
 have hO4 := hO11
 have hO5 := hO3.perm List.perm_middle
 refine rl_call callable_17 rfl rfl rfl rfl rfl rfl (newGood mem mon pa3 ma3 (min mon.toNat 20) pc3 (min k2 66) mc3 rate cap P (fun _ => min mon.toNat 20) F w.heap.size _ w w14 hO5 (hN3.2.1.sub (.cons _ (List.sublist_append_left _ _))) (hN3.2.2.sub (.cons _ (List.sublist_append_left _ _))) (by omega) (by omega) hrate (by omega) (by omega) (by omega) (fun _ _ _ => by omega) (fun i i0 i1 => by have := hC.hP i i0 (by omega); omega) (fun i i0 i1 m m0 m1 => by have := hC.hF i i0 (by omega) m m0 (by omega); omega)) (fun e16 w17 hp18 => ?_)
 obtain ⟨hb, rfl, hH0⟩ := hp18
 refine ⟨_, rfl, ?_⟩
 have hk66 : min k2 66 = k2 := by omega
 rw [hk66] at hH0
 obtain ⟨X0, hX0⟩ : ∃ X0, X0 = HM.new mem mon k2 P F rate cap := ⟨_, rfl⟩
 rw [← hX0] at hH0
 obtain ⟨RR, hRR⟩ : ∃ RR, RR = N3 ++ (N ++ [some (lch b2 25 (cfL mm mn pa pn pc ma mk mc rt cp))]) := ⟨_, rfl⟩
 replace hH0 : HAt w.heap.size w w17 hb X0 [] (some (lch b5 25 (cfL mem mon pa2 mon.toNat pc2 ma2 k2 mc2 rate cap)) :: RR) := by rw [hRR]; exact hH0
 have hsN : N.Sublist RR := by rw [hRR]; exact (List.sublist_append_left N _).trans (List.sublist_append_right N3 _)
 clear hRR
 have hB0 : HB 0 X0 := by rw [hX0]; exact HB.new (by omega) (by omega) (by omega) (fun m m0 m1 => by have := hC.hP m m0 m1; omega) (fun i i0 i1 m m0 m1 => by have := hC.hF i i0 (by omega) m m0 m1; omega) hrate (by omega)
 have hd0 : X0.dim = (mem.toNat, mon) := by rw [hX0]; rfl
 refine rl_v rfl rfl rfl (ov_move rfl rfl) <| rl_v rfl rfl rfl (ov_extract rfl rfl (by rfl)) ?_
 refine rl_v rfl rfl rfl (ov_extract rfl rfl (by rfl)) ?_
 refine rl_v rfl rfl rfl (ov_assign rfl rfl) <| rl_v rfl rfl rfl (ov_assign rfl rfl) <| rl_nil <| run_seq <| run_region <| rl_v rfl rfl rfl (ov_loadW rfl Try.underlying25 rfl (by kernel_rfl) rfl (hH0.own) 0 rfl) ?_
 refine rl_call callable_33 rfl rfl rfl rfl rfl rfl (HAt.refN hH0 (R0 := N) (.cons _ hsN) (Y := X0) (fun H hO hs => by rw [hX0]; exact gNew_any mem mon pa2 ma2 mon.toNat pc2 k2 mc2 rate cap P (fun _ => mon.toNat) F N w.heap.size H w w17 hO hs hC.ps hC.ms (by omega) (by omega) (by omega) (fun _ _ _ => by omega))) (fun e19 w20 hp21 => ?_)
 obtain ⟨T0, G0, rfl, hI0, hH1⟩ := hp21
 refine ⟨_, rfl, ?_⟩
 obtain ⟨K1, N1, hO6, hK1, hP1⟩ := HAt.pull [] T0 hH1
 refine rl_ow rfl (ow_alloc _ rfl rfl rfl zero_34 rfl hO6) ?_
 rintro _ w22 ⟨b8, rfl, hO23, hs24⟩
 refine rl_ow rfl (ow_storeW rfl rfl (by kernel_rfl) hO23 0 rfl rfl (by rfl) rfl (by rfl)) ?_
 rintro _ w25 ⟨rfl, hO26, hs27⟩
 obtain ⟨RS, hRS⟩ : ∃ RS, RS = some (lch b5 25 (cfL mem mon pa2 mon.toNat pc2 ma2 k2 mc2 rate cap)) :: RR := ⟨_, rfl⟩
 have hsS : N.Sublist RS := by rw [hRS]; exact .cons _ hsN
 have hH2 : HAt w.heap.size w w25 hb X0 [] ([some (lch b8 34 (ghL X0 G0))] ++ (T0 ++ RS)) := by rw [hRS]; exact HAt.puts [some (lch b8 34 (ghL X0 G0))] hO26 hK1 hP1
 clear hRS
 refine rl_nil <| run_seq <| run_seq <| run_region <| rl_v rfl rfl rfl (ov_move rfl rfl) <| rl_v rfl rfl rfl (ov_neq rfl rfl rfl) <| rl_v rfl rfl rfl (ov_move rfl rfl) ?_
 first | refine rl_split_dec 24 rfl (fun q1 => ?_) (fun q1 => ?_) | refine rl_split 24 rfl (fun q1 => ?_) (fun q1 => ?_)
 ·refine rl_gskip rfl rfl rfl rfl rfl rfl <| rl_gskip rfl rfl rfl rfl rfl rfl <| rl_v rfl rfl rfl (ov_pick_t rfl rfl rfl) <| rl_nil ?_
  exfalso; exact q1 rfl
 ·refine rl_gv rfl rfl rfl rfl rfl (ov_move rfl rfl) <| rl_gv rfl rfl rfl rfl rfl (ov_ptrnil rfl Try.underlying30 rfl) <| rl_v rfl rfl rfl (ov_pick_f rfl rfl rfl) <| rl_nil <| run_cond_f rfl <| run_skip <| run_seq <| run_seq <| run_region <| rl_v rfl rfl rfl (ov_assign rfl rfl) <| rl_nil <| run_block <| Run.keep [1, 6, 8, 9] (F' := [(1, _), (6, _), (8, _), (9, _)]) rfl <| run_loop4 (fun (i : Int) (X : HM) (T : List (Option Blk)) (L : GK) => [(9, .int .i64 i)]) [1, 6, 8] (fun (i : Int) (X : HM) (T : List (Option Blk)) (L : GK) (w29 : World) => (0 ≤ i ∧ i ≤ 40) ∧ HB i.toNat X ∧ X.dim = (mem.toNat, mon) ∧ GIn (T ++ N) X L ∧ HAt w.heap.size w w29 hb X [] ([some (lch b8 34 (ghL X L))] ++ (T ++ RS))) (fun (i : Int) (X : HM) (T : List (Option Blk)) (L : GK) => (40 - i).toNat) (0) (X0) (T0) (G0) ?_ (And.intro (by exact slot_int rfl (by first | omega)) (And.intro rfl (And.intro rfl (And.intro rfl trivial)))) ?_
  ·exact ⟨by omega, hB0, hd0, hI0, hH2⟩
  intro i X T L w29 hIw29 ih30
  obtain ⟨hi, hX, hdm, hI, hH⟩ := hIw29
  show Run _ _ _ _ [(9, _), (1, _), (6, _), (8, _)] _ _
  refine run_seq <| run_seq <| run_region_join 35 (.bool (decide (i < ln ∧ i < 40))) [1, 6, 8, 9] (fun hk31 => ?_) ?_
  ·refine rl_v rfl rfl rfl (ov_move rfl rfl) <| rl_v rfl rfl rfl (ov_move rfl rfl) <| rl_v rfl rfl rfl (ov_len rfl Try.underlying26 rfl) <| rl_v rfl rfl rfl (ov_lss rfl rfl rfl) <| rl_v rfl rfl rfl (ov_move rfl rfl) ?_
   first | refine rl_split_dec 32 rfl (fun j1 => ?_) (fun j1 => ?_) | refine rl_split 32 rfl (fun j1 => ?_) (fun j1 => ?_)
   ·refine rl_gv rfl rfl rfl rfl rfl (ov_move rfl rfl) <| rl_gv rfl rfl rfl rfl rfl (ov_lss rfl rfl rfl) <| rl_v rfl rfl rfl (ov_pick_t rfl rfl rfl) ?_
    refine rl_nil (hk31 _ (jbd rfl (by omega)) (And.intro rfl (And.intro rfl (And.intro rfl (And.intro rfl trivial)))))
   ·refine rl_gskip rfl rfl rfl rfl rfl rfl <| rl_gskip rfl rfl rfl rfl rfl rfl <| rl_v rfl rfl rfl (ov_pick_f rfl rfl rfl) ?_
    refine rl_nil (hk31 _ (jbf rfl (by omega)) (And.intro rfl (And.intro rfl (And.intro rfl (And.intro rfl trivial)))))
  ·show Run _ _ _ _ [(35, _), (1, _), (6, _), (8, _), (9, _)] _ _
   first | refine run_cond_dec rfl (fun h1 => ?_) (fun h1 => ?_) | refine run_cond rfl (fun h1 => ?_) (fun h1 => ?_)
   ·have hXm : X.mem = mem.toNat := congrArg Prod.fst hdm
    obtain ⟨K7, N7, hO8, hK7, hP7⟩ := HAt.pull [some (lch b8 34 (ghL X L))] [] hH
    refine run_skip <| run_seq <| run_block <| run_seq <| run_held (fun w' => Own w.heap.size w w' ([some (lch b8 34 (ghL X L))])) mixed ?_
    have hO34 := hO8.drew
    generalize World.drew w29 = w33 at hO34 ⊢
    have hS35 : Own w.heap.size w w33 ([some (lch b8 34 (ghL X L))]) := by first | exact hO34.sub (.cons_cons _ (List.nil_sublist _)) | exact hO34.sub (.cons _ (.cons_cons _ (List.nil_sublist _)))
    refine rh_v 0 rfl (by kernel_rfl) rfl rfl rfl hS35 (fun _ hS => ov_move rfl rfl) ?_
    refine rh_v 1 rfl (by kernel_rfl) rfl rfl rfl hS35 (fun _ hS => ov_loadW rfl Try.underlying34 rfl (by kernel_rfl) rfl hS 0 rfl) ?_
    refine rh_v 2 rfl (by kernel_rfl) rfl rfl rfl hS35 (fun _ hS => ov_move rfl rfl) ?_
    refine rh_v 3 rfl (by kernel_rfl) rfl rfl rfl hS35 (fun _ hS => ov_move rfl rfl) ?_
    refine rh_v 4 rfl (by kernel_rfl) rfl rfl rfl hS35 (fun _ hS => ov_index rfl Try.underlying26 (by kernel_rfl) (s := 7) rfl rfl ⟨by omega, by omega⟩ (by exact (hla (by omega)))) ?_
    refine rh_v 5 rfl (by kernel_rfl) rfl rfl rfl hS35 (fun _ hS => ov_loadE rfl Try.underlying28 rfl (by kernel_rfl) rfl ⟨by omega, by omega⟩ rfl (hrow _ hS.below)) ?_
    refine rh_any2 6 10 (by kernel_rfl) ?_ ?_
    ·refine rc_op rfl rfl (ow_call2 callable_34 rfl rfl rfl rfl rfl (do_any hb w.heap.size X L (S.k i) (S.a i) (S.b i) (S.m i) (S.q i) (S.p i) (S.n i) [] _ (T ++ N) w w33 i.toNat (HAt.puts [some (lch b8 34 (ghL X L))] hO34 hK7 hP7) hI (.cons _ (List.Sublist.append_left hsS T)) hX (by omega) (by omega)) (by intro e w' hp; obtain ⟨T2, L2, rfl, hI2, hH3⟩ := hp; exact ⟨_, rfl⟩)) ?_
     rintro _ w38 ⟨_, v36, he39, rfl, hp37⟩
     obtain ⟨T2, L2, rfl, hI2, hH3⟩ := hp37
     injection he39 with he39; subst he39
     have hX2 := hX.dstep (by omega) (IntKind.u64.wrap (S.k i) % 12) (S.a i) (S.b i) (S.m i) (S.q i) (S.p i) (S.n i)
     have hdm2 := (dstep_dim X (IntKind.u64.wrap (S.k i) % 12) (S.a i) (S.b i) (S.m i) (S.q i) (S.p i) (S.n i)).trans hdm
     generalize X.dstep (IntKind.u64.wrap (S.k i) % 12) (S.a i) (S.b i) (S.m i) (S.q i) (S.p i) (S.n i) = Y at *
     obtain ⟨K2, N2, hO7, hK2, hP2⟩ := HAt.pull [some (lch b8 34 (ghL X L))] T2 hH3
     have hS40 : Own w.heap.size w w38 ([some (lch b8 34 (ghL X L))]) := by first | exact hO7.sub (.cons_cons _ (List.nil_sublist _)) | exact hO7.sub (.cons _ (.cons_cons _ (List.nil_sublist _)))
     refine ⟨hS40, ?_⟩
     refine rh_v 7 rfl (by kernel_rfl) rfl rfl rfl hS40 (fun _ hS => ov_move rfl rfl) ?_
     refine rh_v 8 rfl (by kernel_rfl) rfl rfl rfl hS40 (fun _ hS => ov_extract rfl rfl (by rfl)) ?_
     refine rh_v 9 rfl (by kernel_rfl) rfl rfl rfl hS40 (fun _ hS => ov_extract rfl rfl (by rfl)) ?_
     refine rh_any1 10 (by kernel_rfl) ?_
     refine rc_op rfl rfl (ow_alloc _ rfl rfl rfl zero_34 rfl hO7) ?_
     rintro _ w41 ⟨b10, rfl, hO42, hs43⟩
     have hS44 : Own w.heap.size w w41 ([some (lch b8 34 (ghL X L))]) := by first | exact hO42.sub (.cons_cons _ (List.nil_sublist _)) | exact hO42.sub (.cons _ (.cons_cons _ (List.nil_sublist _)))
     refine ⟨hS44, ?_⟩
     refine rh_any1 11 (by kernel_rfl) ?_
     refine rc_op rfl rfl (ow_storeW rfl rfl (by kernel_rfl) hO42 0 rfl rfl (by rfl) rfl (by rfl)) ?_
     rintro _ w45 ⟨rfl, hO46, hs47⟩
     have hS48 : Own w.heap.size w w45 ([some (lch b8 34 (ghL X L))]) := by first | exact hO46.sub (.cons_cons _ (List.nil_sublist _)) | exact hO46.sub (.cons _ (.cons_cons _ (List.nil_sublist _)))
     refine ⟨hS48, ?_⟩
     refine rh_v 12 rfl (by kernel_rfl) rfl rfl rfl hS48 (fun _ hS => ov_assign rfl rfl) ?_
     refine rh_done (by kernel_rfl) ?_
     refine run_seq <| run_region <| rl_v rfl rfl rfl (ov_loadW rfl Try.underlying34 rfl (by kernel_rfl) rfl hO46 0 rfl) ?_
     refine rl_ow rfl (ow_storeW rfl rfl (by kernel_rfl) hO46 1 rfl rfl (by rfl) rfl (by rfl)) ?_
     rintro _ w49 ⟨rfl, hO50, hs51⟩
     have hH4 : HAt w.heap.size w w49 hb Y [] ([some (lch b10 34 (ghL Y L2)), some (lch b8 34 (ghL Y L2))] ++ (T2 ++ (T ++ RS))) := HAt.puts [some (lch b10 34 (ghL Y L2)), some (lch b8 34 (ghL Y L2))] hO50 hK2 hP2
     refine rl_nil <| run_seq <| run_region <| rl_v rfl rfl rfl (ov_move rfl rfl) <| rl_v rfl rfl rfl (ov_not rfl rfl) <| rl_v rfl rfl rfl (ov_move rfl rfl) ?_
     first | refine rl_noD 51 rfl (rfl) ?_ | refine rl_no 51 rfl (rfl) ?_
     refine rl_gv rfl rfl rfl rfl rfl (ov_move rfl rfl) <| rl_gv rfl rfl rfl rfl rfl (ov_loadW rfl Try.underlying34 rfl (by kernel_rfl) rfl (hH4.own) 1 rfl) ?_
     refine rl_gcall callable_35 rfl rfl rfl rfl rfl rfl rfl rfl (shows_any hb w.heap.size Y L2 [] (T2 ++ (T ++ N)) _ w w49 hH4 hI2 (.cons _ (.cons _ (List.Sublist.append_left (List.Sublist.append_left hsS T) T2))) (hX2.gg (by omega))) (fun e52 w53 hp54 => ?_)
     obtain ⟨rfl, hH5⟩ := hp54
     refine ⟨_, rfl, ?_⟩
     refine rl_gv rfl rfl rfl rfl rfl (ov_not rfl rfl) <| rl_v rfl rfl rfl (ov_pick_f rfl rfl rfl) <| rl_nil <| run_cond_f rfl <| run_skip <| run_inBlock <| run_region <| rl_v rfl rfl rfl (ov_move rfl rfl) <| rl_v rfl rfl rfl (ov_add rfl rfl rfl (by omega)) ?_
     refine rl_v rfl rfl rfl (ov_assign rfl rfl) <| rl_nil ?_
     refine Run.use (ih30 (i + 1) (Y) (T2 ++ T) (L2) _ ?_ ?_) (And.intro (by exact slot_int rfl (by first | omega)) (And.intro rfl (And.intro rfl (And.intro rfl trivial))))
     ·first | omega | (dsimp only; omega)
     ·exact ⟨by omega, by rw [show (i + 1).toNat = i.toNat + 1 by omega]; exact hX2, hdm2, by rw [List.append_assoc]; exact hI2, by rw [List.append_assoc]; exact hH5.shed⟩
    ·refine rc_op rfl rfl (ow_alloc _ rfl rfl rfl zero_34 rfl hO34) ?_
     rintro _ w55 ⟨b10, rfl, hO56, hs57⟩
     have hS58 : Own w.heap.size w w55 ([some (lch b8 34 (ghL X L))]) := by first | exact hO56.sub (.cons_cons _ (List.nil_sublist _)) | exact hO56.sub (.cons _ (.cons_cons _ (List.nil_sublist _)))
     refine ⟨hS58, ?_⟩
     refine rh_any1 6 (by kernel_rfl) ?_
     refine rc_op rfl rfl (ow_call2 callable_34 rfl rfl rfl rfl rfl (do_any hb w.heap.size X L (S.k i) (S.a i) (S.b i) (S.m i) (S.q i) (S.p i) (S.n i) [] _ (T ++ N) w w55 i.toNat (HAt.puts [some (lch b10 34 ghz), some (lch b8 34 (ghL X L))] hO56 hK7 hP7) hI (.cons _ (.cons _ (List.Sublist.append_left hsS T))) hX (by omega) (by omega)) (by intro e w' hp; obtain ⟨T2, L2, rfl, hI2, hH3⟩ := hp; exact ⟨_, rfl⟩)) ?_
     rintro _ w61 ⟨_, v59, he62, rfl, hp60⟩
     obtain ⟨T2, L2, rfl, hI2, hH3⟩ := hp60
     injection he62 with he62; subst he62
     have hX2 := hX.dstep (by omega) (IntKind.u64.wrap (S.k i) % 12) (S.a i) (S.b i) (S.m i) (S.q i) (S.p i) (S.n i)
     have hdm2 := (dstep_dim X (IntKind.u64.wrap (S.k i) % 12) (S.a i) (S.b i) (S.m i) (S.q i) (S.p i) (S.n i)).trans hdm
     generalize X.dstep (IntKind.u64.wrap (S.k i) % 12) (S.a i) (S.b i) (S.m i) (S.q i) (S.p i) (S.n i) = Y at *
     obtain ⟨K2, N2, hO7, hK2, hP2⟩ := HAt.pull [some (lch b10 34 ghz), some (lch b8 34 (ghL X L))] T2 hH3
     have hS63 : Own w.heap.size w w61 ([some (lch b8 34 (ghL X L))]) := by first | exact hO7.sub (.cons_cons _ (List.nil_sublist _)) | exact hO7.sub (.cons _ (.cons_cons _ (List.nil_sublist _)))
     refine ⟨hS63, ?_⟩
     refine rh_v 7 rfl (by kernel_rfl) rfl rfl rfl hS63 (fun _ hS => ov_move rfl rfl) ?_
     refine rh_v 8 rfl (by kernel_rfl) rfl rfl rfl hS63 (fun _ hS => ov_extract rfl rfl (by rfl)) ?_
     refine rh_v 9 rfl (by kernel_rfl) rfl rfl rfl hS63 (fun _ hS => ov_extract rfl rfl (by rfl)) ?_
     refine rh_any1 11 (by kernel_rfl) ?_
     refine rc_op rfl rfl (ow_storeW rfl rfl (by kernel_rfl) hO7 0 rfl rfl (by rfl) rfl (by rfl)) ?_
     rintro _ w64 ⟨rfl, hO65, hs66⟩
     have hS67 : Own w.heap.size w w64 ([some (lch b8 34 (ghL X L))]) := by first | exact hO65.sub (.cons_cons _ (List.nil_sublist _)) | exact hO65.sub (.cons _ (.cons_cons _ (List.nil_sublist _)))
     refine ⟨hS67, ?_⟩
     refine rh_v 12 rfl (by kernel_rfl) rfl rfl rfl hS67 (fun _ hS => ov_assign rfl rfl) ?_
     refine rh_done (by kernel_rfl) ?_
     refine run_seq <| run_region <| rl_v rfl rfl rfl (ov_loadW rfl Try.underlying34 rfl (by kernel_rfl) rfl hO65 0 rfl) ?_
     refine rl_ow rfl (ow_storeW rfl rfl (by kernel_rfl) hO65 1 rfl rfl (by rfl) rfl (by rfl)) ?_
     rintro _ w68 ⟨rfl, hO69, hs70⟩
     have hH4 : HAt w.heap.size w w68 hb Y [] ([some (lch b10 34 (ghL Y L2)), some (lch b8 34 (ghL Y L2))] ++ (T2 ++ (T ++ RS))) := HAt.puts [some (lch b10 34 (ghL Y L2)), some (lch b8 34 (ghL Y L2))] hO69 hK2 hP2
     refine rl_nil <| run_seq <| run_region <| rl_v rfl rfl rfl (ov_move rfl rfl) <| rl_v rfl rfl rfl (ov_not rfl rfl) <| rl_v rfl rfl rfl (ov_move rfl rfl) ?_
     first | refine rl_noD 51 rfl (rfl) ?_ | refine rl_no 51 rfl (rfl) ?_
     refine rl_gv rfl rfl rfl rfl rfl (ov_move rfl rfl) <| rl_gv rfl rfl rfl rfl rfl (ov_loadW rfl Try.underlying34 rfl (by kernel_rfl) rfl (hH4.own) 1 rfl) ?_
     refine rl_gcall callable_35 rfl rfl rfl rfl rfl rfl rfl rfl (shows_any hb w.heap.size Y L2 [] (T2 ++ (T ++ N)) _ w w68 hH4 hI2 (.cons _ (.cons _ (List.Sublist.append_left (List.Sublist.append_left hsS T) T2))) (hX2.gg (by omega))) (fun e71 w72 hp73 => ?_)
     obtain ⟨rfl, hH5⟩ := hp73
     refine ⟨_, rfl, ?_⟩
     refine rl_gv rfl rfl rfl rfl rfl (ov_not rfl rfl) <| rl_v rfl rfl rfl (ov_pick_f rfl rfl rfl) <| rl_nil <| run_cond_f rfl <| run_skip <| run_inBlock <| run_region <| rl_v rfl rfl rfl (ov_move rfl rfl) <| rl_v rfl rfl rfl (ov_add rfl rfl rfl (by omega)) ?_
     refine rl_v rfl rfl rfl (ov_assign rfl rfl) <| rl_nil ?_
     refine Run.use (ih30 (i + 1) (Y) (T2 ++ T) (L2) _ ?_ ?_) (And.intro (by exact slot_int rfl (by first | omega)) (And.intro rfl (And.intro rfl (And.intro rfl trivial))))
     ·first | omega | (dsimp only; omega)
     ·exact ⟨by omega, by rw [show (i + 1).toNat = i.toNat + 1 by omega]; exact hX2, hdm2, by rw [List.append_assoc]; exact hI2, by rw [List.append_assoc]; exact hH5.shed⟩
   ·refine run_exit rfl <| run_seq <| run_region ?_
    refine rl_call callable_21 rfl rfl rfl rfl rfl rfl (hH.call1 (Q := fun e => e = _) (fun H hO _ => awake_any w.heap.size H w w29 hO)) (fun e74 w75 hp76 => ?_)
    obtain ⟨rfl, hH6⟩ := hp76
    refine ⟨_, rfl, ?_⟩
    refine rl_v rfl rfl rfl (ov_assign rfl rfl) <| rl_nil <| run_ret Try.func6 (res1 Try.results6 rfl) ?_
    exact ⟨rfl, (hH6.own).below⟩
end Go.Proofs.Ytfbbagnpdfafjaa
set_option maxRecDepth 100000
namespace Go.Proofs.Ytfbbagnpdfafjaa
open Go.Joins Go.ChangeShapes Go.WideShapes Go.ChangeAt Go.RowKit Go.Deep Go.Proofs
theorem Try.own : ownKnob Try.prog.godebug = none := by kernel_rfl
theorem Try.laidOut : laidOutB Try.prog = true := by kernel_rfl
theorem cell_lt {w : World} {b off : Nat} {v : Value} (h : w.cell? ⟨b, off, none⟩ = some v) : b < w.heap.size := by
 by_cases hb : b < w.heap.size
 ·exact hb
 ·have : w.heap[b]? = none := by simp; omega
  simp [World.cell?, this] at h
theorem iat_of {W : World} (a : Addr) (n : Nat) (f : Nat → Value) (h : ∀ i, i < n → W.cell? (a.add i) = some (f i)) : IAt W.heap.size W (some a) n (fun i => f i.toNat) := by
 by_cases hn : n = 0
 ·subst hn; exact IAt.nil _ _ _ _
 ·obtain ⟨b, o, s⟩ := a
  have hs : s = none := by simpa [Addr.add] using World.cell?_spot (h 0 (by omega))
  subst hs
  refine ⟨b, o, fun _ => rfl, fun _ => ?_, fun i hi => ?_⟩
  ·have := h 0 (by omega)
   rw [Addr.add_mid] at this
   exact cell_lt this
  ·have := h i hi
   rw [Addr.add_mid] at this
   exact this
theorem open_row0 {H : Type} {enc : TypeId × Value → H} {W : World} {v : Value} {y : DataW H × List MemPlace} {fuel : Nat} (hf : DataW.trod enc Try.prog W 0 (fun _ => true) true fuel 22 [v] = some y) :
  ∃ (ao : Option Addr) (n c : Nat) (g : Int → Int), v = .slice ao n c ∧ n ≤ c ∧ IAt W.heap.size W ao n (fun i => .int .i64 (g i)) := by
 rcases open_ints Try.underlying22 Try.underlying2 (by kernel_rfl) hf with ⟨hcs, hx⟩ | ⟨a, len, cap, zs, hcs, _, hl, hm, hz, hx, hc, _⟩
 ·have hv : v = .slice none 0 0 := by
   simpa using hcs
  exact ⟨none, 0, 0, fun _ => 0, hv, Nat.le_refl _, IAt.nil _ _ _ _⟩
 ·have hv : v = .slice (some a) len cap := by
   simpa using hcs
  simp only [if_true] at hz
  exact ⟨some a, len, cap, fun i => zs.getD i.toNat 0, hv, hl, iat_of a len (fun i => .int .i64 (zs.getD i 0)) (fun i hi => hc i (by omega))⟩
end Go.Proofs.Ytfbbagnpdfafjaa
