import Derived.Test.YtfbbagnpdfafjaaHaZ
set_option maxRecDepth 100000
namespace Go.Proofs.Ytfbbagnpdfafjaa
open Go.RowKit Go.Proofs
structure HActs where
 k : Int → Int
 a : Int → Int
 b : Int → Int
 m : Int → Int
 q : Int → Int
 p : Int → Int
 n : Int → Int
def actL (k a b m q p n : Int) : List Value := [iv k, iv a, iv b, iv m, iv q, iv p, iv n]
def HActs.l (S : HActs) : Int → List Value := fun i => actL (S.k i) (S.a i) (S.b i) (S.m i) (S.q i) (S.p i) (S.n i)
abbrev HM.dim (X : HM) : Nat × Int := (X.mem, X.mo)
theorem dep_mem (X : HM) (i a : Int) : (X.deposit i a).dim = X.dim := by unfold HM.deposit; split <;> rfl
theorem spe_mem (X : HM) (i a : Int) : (X.spent i a).dim = X.dim := by unfold HM.spent; split <;> rfl
theorem cot_mem (X : HM) (i a : Int) : (X.contrib i a).dim = X.dim := by unfold HM.contrib; split <;> rfl
theorem tra_mem (X : HM) (c : Ct) : (X.trade c).dim = X.dim := by unfold HM.trade; split <;> rfl
theorem del_mem (X : HM) (c : Ct) : (X.deliver c).dim = X.dim := by unfold HM.deliver; split <;> rfl
theorem mar_mem (X : HM) (m p : Int) : (X.mark m p).dim = X.dim := by unfold HM.mark; split <;> rfl
theorem dfl_mem (X : HM) (i : Int) : (X.dflt i).dim = X.dim := by
 unfold HM.dflt
 split
 ·split
  ·rw [d7_eq]
  ·rfl
 ·rfl
theorem total_rng {j : Nat} {X : HM} (h : HB j X) (hj : j ≤ 100) : -1000000000000000000 ≤ X.total ∧ X.total ≤ 1000000000000000000 := by
 have hm := h.mem
 have hc := h.cap
 have hh := h.hole
 have hs := sm_abs (f := fun j => (X.ac j).cash + (X.ac j).fund) (k := (X.mem : Int)) 2000000000000000 (by omega) fun i i0 i1 => by
  have h1 := h.cash i i0 i1
  have h2 := h.fund i i0 i1
  omega
 unfold HM.total
 omega
theorem u64_12 (x : Int) : 0 ≤ IntKind.u64.wrap x % 12 ∧ IntKind.u64.wrap x % 12 < 12 := ⟨Int.emod_nonneg _ (by decide), Int.emod_lt_of_pos _ (by decide)⟩
theorem keeps_any (mm mn : Int) (pa ma la : Option Addr) (pn pc mk mc ln lc : Nat) (rt cp : Int) (P0 : Int → Int) (L0 : Int → Nat) (F0 : Int → Int → Int) (S : HActs) (w : World) (hP : IAt w.heap.size w pa pn (fun i => iv (P0 i))) (hT : ITab w.heap.size w ma mk L0 (fun r c => iv (F0 r c))) (hS : SAt w.heap.size w la 7 ln S.l) :
  Calls Try.prog 4 #[.agg (cfL mm mn pa pn pc ma mk mc rt cp).toArray, .slice la ln lc] w fun e w' => e = .returned (.bool true) ∧ Below w.heap.size w w' := by
 obtain ⟨lb, loff, hla, hrow⟩ := hS.open (by decide)
 refine calls_of_run (F := [(0, _), (1, _)]) Try.func4 rfl Try.ntmps4 rfl rfl <| run_seq <| run_region <| rl_ow rfl (ow_box _ rfl rfl rfl rfl rfl (Own.init w)) ?_
 rintro _ w1 ⟨b2, rfl, hO2, hs3⟩
 refine rl_v rfl rfl rfl (ov_assign rfl rfl) <| rl_nil <| run_seq <| run_region <| rl_v rfl rfl rfl (ov_loadW rfl Try.underlying25 rfl (by kernel_rfl) rfl hO2 0 rfl) ?_
 refine rl_call callable_15 rfl rfl rfl rfl rfl rfl (tame_any mm mn pa ma pn pc mk mc rt cp P0 L0 F0 w.heap.size _ w w1 hO2 hP hT) (fun e4 w5 hp6 => ?_)
 obtain ⟨mem, mon, pa2, ma2, pc2, k2, mc2, P, F, rate, cap, N, rfl, hC, hO2⟩ := hp6
 refine ⟨_, rfl, ?_⟩
 have hmem := hC.hmem
 have hmon := hC.hmon
 have hk := hC.hk
 have hrate := hC.hrate
 have hcap := hC.hcap
 refine rl_ow rfl (ow_alloc _ rfl rfl rfl zero_25 rfl hO2) ?_
 rintro _ w7 ⟨b5, rfl, hO8, hs9⟩
 refine rl_ow rfl (ow_storeW rfl rfl (by kernel_rfl) hO8 0 rfl rfl (by rfl) rfl (by rfl)) ?_
 rintro _ w10 ⟨rfl, hO11, hs12⟩
 refine rl_nil <| run_seq <| run_region <| rl_v rfl rfl rfl (ov_loadW rfl Try.underlying25 rfl (by kernel_rfl) rfl hO11 0 rfl) ?_
 refine rl_call callable_18 rfl rfl rfl rfl rfl rfl (give_any mem mon pa2 ma2 mon.toNat pc2 k2 mc2 rate cap P (fun _ => mon.toNat) F w.heap.size _ w w10 hO11 (CfRd.of_src hC.hpc hC.ps hC.ms (.cons _ (List.sublist_append_left _ _)))) (fun e13 w14 hp15 => ?_)
 obtain ⟨pa3, ma3, pc3, mc3, N3, rfl, hN3, hO3⟩ := hp15
 refine ⟨_, rfl, ?_⟩
 have hO4 := hO11
 have hO5 := hO3.perm List.perm_middle
 refine rl_call callable_17 rfl rfl rfl rfl rfl rfl (newGood mem mon pa3 ma3 (min mon.toNat 20) pc3 (min k2 66) mc3 rate cap P (fun _ => min mon.toNat 20) F w.heap.size _ w w14 hO5 (hN3.2.1.sub (.cons _ (List.sublist_append_left _ _))) (hN3.2.2.sub (.cons _ (List.sublist_append_left _ _))) (by omega) (by omega) hrate (by omega) (by omega) (by omega) (fun _ _ _ => by omega) (fun i i0 i1 => by have := hC.hP i i0 (by omega); omega) (fun i i0 i1 m m0 m1 => by have := hC.hF i i0 (by omega) m m0 (by omega); omega)) (fun e16 w17 hp18 => ?_)
 obtain ⟨hb, rfl, hH0⟩ := hp18
 refine ⟨_, rfl, ?_⟩
 obtain ⟨RR, hRR⟩ : ∃ RR, RR = N3 ++ (N ++ [some (lch b2 25 (cfL mm mn pa pn pc ma mk mc rt cp))]) := ⟨_, rfl⟩
 replace hH0 : HAt w.heap.size w w17 hb (HM.new mem mon (min k2 66) P F rate cap) [] (some (lch b5 25 (cfL mem mon pa2 mon.toNat pc2 ma2 k2 mc2 rate cap)) :: RR) := by rw [hRR]; exact hH0
 clear hRR
 have hB0 : HB 0 (HM.new mem mon (min k2 66) P F rate cap) := HB.new (by omega) (by omega) (by omega) (fun m m0 m1 => by have := hC.hP m m0 m1; omega) (fun i i0 i1 m m0 m1 => by have := hC.hF i i0 (by omega) m m0 m1; omega) hrate (by omega)
 have htn : (HM.new mem mon (min k2 66) P F rate cap).total = cap := total_new
 refine rl_v rfl rfl rfl (ov_move rfl rfl) <| rl_v rfl rfl rfl (ov_extract rfl rfl (by rfl)) ?_
 refine rl_v rfl rfl rfl (ov_extract rfl rfl (by rfl)) ?_
 refine rl_v rfl rfl rfl (ov_assign rfl rfl) <| rl_v rfl rfl rfl (ov_assign rfl rfl) <| rl_nil <| run_seq <| run_seq <| run_region <| rl_v rfl rfl rfl (ov_move rfl rfl) <| rl_v rfl rfl rfl (ov_neq rfl rfl rfl) <| rl_v rfl rfl rfl (ov_move rfl rfl) ?_
 first | refine rl_split_dec 26 rfl (fun q1 => ?_) (fun q1 => ?_) | refine rl_split 26 rfl (fun q1 => ?_) (fun q1 => ?_)
 ·refine rl_gskip rfl rfl rfl rfl rfl rfl <| rl_gskip rfl rfl rfl rfl rfl rfl <| rl_v rfl rfl rfl (ov_pick_t rfl rfl rfl) <| rl_nil ?_
  exfalso; exact q1 rfl
 ·refine rl_gv rfl rfl rfl rfl rfl (ov_move rfl rfl) <| rl_gv rfl rfl rfl rfl rfl (ov_ptrnil rfl Try.underlying30 rfl) <| rl_v rfl rfl rfl (ov_pick_f rfl rfl rfl) <| rl_nil <| run_cond_f rfl <| run_skip <| run_seq <| run_region <| rl_v rfl rfl rfl (ov_fieldS rfl Try.underlying25 rfl (fo := 5) rfl (by kernel_rfl) rfl) ?_
  refine rl_v rfl rfl rfl (ov_load rfl Try.underlying2 rfl rfl (by exact (show _ = some (iv cap) from hH0.fr.cellL 0 rfl (off := 5) rfl))) ?_
  refine rl_v rfl rfl rfl (ov_assign rfl rfl) <| rl_nil <| run_seq <| run_seq <| run_region <| rl_v rfl rfl rfl (ov_assign rfl rfl) <| rl_nil <| run_block <| Run.keep [1, 5, 6, 8, 9] (F' := [(1, _), (5, _), (6, _), (8, _), (9, _)]) rfl <| run_loop2 (fun (i : Int) (X : HM) => [(8, .int .i64 X.total), (9, .int .i64 i)]) [1, 5, 6] (fun (i : Int) (X : HM) (w20 : World) => (0 ≤ i ∧ i ≤ 50) ∧ HB i.toNat X ∧ X.dim = (mem.toNat, mon) ∧ HAt w.heap.size w w20 hb X [] (some (lch b5 25 (cfL mem mon pa2 mon.toNat pc2 ma2 k2 mc2 rate cap)) :: RR)) (fun (i : Int) (X : HM) => (50 - i).toNat) (0) (HM.new mem mon (min k2 66) P F rate cap) ?_ (And.intro (by exact slot_int rfl (by first | omega)) (And.intro (by exact slot_int rfl (by first | omega)) (And.intro rfl (And.intro rfl (And.intro rfl trivial))))) ?_
  ·exact ⟨by omega, hB0, rfl, hH0⟩
  intro i X w20 hIw20 ih21
  obtain ⟨hi, hX, hmm, hH⟩ := hIw20
  show Run _ _ _ _ [(8, _), (9, _), (1, _), (5, _), (6, _)] _ _
  refine run_seq <| run_seq <| run_region_join 39 (.bool (decide (i < ln ∧ i < 50))) [1, 5, 6, 8, 9] (fun hk22 => ?_) ?_
  ·refine rl_v rfl rfl rfl (ov_move rfl rfl) <| rl_v rfl rfl rfl (ov_move rfl rfl) <| rl_v rfl rfl rfl (ov_len rfl Try.underlying26 rfl) <| rl_v rfl rfl rfl (ov_lss rfl rfl rfl) <| rl_v rfl rfl rfl (ov_move rfl rfl) ?_
   first | refine rl_split_dec 36 rfl (fun j1 => ?_) (fun j1 => ?_) | refine rl_split 36 rfl (fun j1 => ?_) (fun j1 => ?_)
   ·refine rl_gv rfl rfl rfl rfl rfl (ov_move rfl rfl) <| rl_gv rfl rfl rfl rfl rfl (ov_lss rfl rfl rfl) <| rl_v rfl rfl rfl (ov_pick_t rfl rfl rfl) ?_
    refine rl_nil (hk22 _ (jbd rfl (by omega)) (And.intro rfl (And.intro rfl (And.intro rfl (And.intro rfl (And.intro rfl trivial))))))
   ·refine rl_gskip rfl rfl rfl rfl rfl rfl <| rl_gskip rfl rfl rfl rfl rfl rfl <| rl_v rfl rfl rfl (ov_pick_f rfl rfl rfl) ?_
    refine rl_nil (hk22 _ (jbf rfl (by omega)) (And.intro rfl (And.intro rfl (And.intro rfl (And.intro rfl (And.intro rfl trivial))))))
  ·show Run _ _ _ _ [(39, _), (1, _), (5, _), (6, _), (8, _), (9, _)] _ _
   first | refine run_cond_dec rfl (fun h1 => ?_) (fun h1 => ?_) | refine run_cond rfl (fun h1 => ?_) (fun h1 => ?_)
   ·obtain ⟨K, N4, hO6, hK, hPl⟩ := hH
    refine run_skip <| run_seq <| run_block <| run_seq <| run_region <| rl_v rfl rfl rfl (ov_move rfl rfl) <| rl_v rfl rfl rfl (ov_move rfl rfl) <| rl_v rfl rfl rfl (ov_index rfl Try.underlying26 (by kernel_rfl) (s := 7) rfl rfl ⟨by omega, by omega⟩ (by exact (hla (by omega)))) ?_
    refine rl_v rfl rfl rfl (ov_loadE rfl Try.underlying28 rfl (by kernel_rfl) rfl ⟨by omega, by omega⟩ rfl (hrow _ hO6.below)) ?_
    refine rl_ow rfl (ow_alloc _ rfl rfl rfl zero_28 rfl hO6) ?_
    rintro _ w24 ⟨b10, rfl, hO25, hs26⟩
    refine rl_ow rfl (ow_storeW rfl rfl (by kernel_rfl) hO25 0 rfl rfl (by rfl) rfl (by rfl)) ?_
    rintro _ w27 ⟨rfl, hO28, hs29⟩
    have hs1 := sml_rng (S.q i) (show (0 : Int) ≤ 50 by decide)
    have hs2 := sml_rng (S.p i) (show (0 : Int) ≤ 300 by decide)
    refine rl_nil <| run_seq <| run_region <| rl_v rfl rfl rfl (ov_fieldS rfl Try.underlying28 rfl (fo := 4) rfl (by kernel_rfl) rfl) ?_
    refine rl_v rfl rfl rfl (ov_load rfl Try.underlying2 rfl rfl (by exact (show _ = some (iv (S.q i)) from hO28.cellL 0 rfl (off := 4) rfl))) ?_
    refine rl_call callable_19 rfl rfl rfl rfl rfl rfl (small_any (S.q i) 50 w.heap.size _ w w27 hO28 (by decide)) (fun e30 w31 hp32 => ?_)
    obtain ⟨rfl, hO7⟩ := hp32
    refine ⟨_, rfl, ?_⟩
    refine rl_v rfl rfl rfl (ov_add rfl rfl rfl (by omega)) ?_
    refine rl_v rfl rfl rfl (ov_fieldS rfl Try.underlying28 rfl (fo := 4) rfl (by kernel_rfl) rfl) ?_
    refine rl_ow rfl (ow_storeL rfl rfl (by kernel_rfl) hO7 0 rfl rfl rfl rfl rfl) ?_
    rintro _ w33 ⟨rfl, hO34, hs35⟩
    refine rl_nil <| run_seq <| run_region <| rl_v rfl rfl rfl (ov_fieldS rfl Try.underlying28 rfl (fo := 5) rfl (by kernel_rfl) rfl) ?_
    refine rl_v rfl rfl rfl (ov_load rfl Try.underlying2 rfl rfl (by exact (show _ = some (iv (S.p i)) from hO34.cellL 0 rfl (off := 5) rfl))) ?_
    refine rl_call callable_19 rfl rfl rfl rfl rfl rfl (small_any (S.p i) 300 w.heap.size _ w w33 hO34 (by decide)) (fun e36 w37 hp38 => ?_)
    obtain ⟨rfl, hO8⟩ := hp38
    refine ⟨_, rfl, ?_⟩
    refine rl_v rfl rfl rfl (ov_add rfl rfl rfl (by omega)) ?_
    refine rl_v rfl rfl rfl (ov_fieldS rfl Try.underlying28 rfl (fo := 5) rfl (by kernel_rfl) rfl) ?_
    refine rl_ow rfl (ow_storeL rfl rfl (by kernel_rfl) hO8 0 rfl rfl rfl rfl rfl) ?_
    rintro _ w39 ⟨rfl, hO40, hs41⟩
    have hx := u64_12 (S.k i)
    have hG := hX.hg (by omega)
    have hXm := hX.mem
    have htr := total_rng hX (by omega)
    have hA : HAt w.heap.size w w39 hb X [] (some (lch b10 28 (actL (S.k i) (S.a i) (S.b i) (S.m i) (1 + sml (S.q i) 50) (1 + sml (S.p i) 300) (S.n i))) :: (some (lch b5 25 (cfL mem mon pa2 mon.toNat pc2 ma2 k2 mc2 rate cap)) :: RR)) := HAt.push hO40 hK hPl
    refine rl_nil <| run_seq <| run_seq <| run_region <| rl_v rfl rfl rfl (ov_fieldS rfl Try.underlying28 rfl (fo := 0) rfl (by kernel_rfl) rfl) ?_
    refine rl_v rfl rfl rfl (ov_load rfl Try.underlying3 rfl rfl (by exact (show _ = some (iv (S.k i)) from hO40.cellL 0 rfl (off := 0) rfl))) ?_
    refine rl_v rfl rfl rfl (ov_conv rfl Try.underlying3 Try.underlying42 rfl) <| rl_v rfl rfl rfl (ov_rem rfl rfl rfl (u64_nn _) (by omega)) ?_
    refine rl_nil <| Run.keep [1, 5, 6, 8, 9, 10, 59] (F' := [(1, _), (5, _), (6, _), (8, _), (9, _), (10, _), (59, _)]) rfl <| run_join2 (fun (Y : HM) (tot : Int) => [(8, .int .i64 tot)]) [1, 5, 6, 9] (fun (Y : HM) (tot : Int) (w42 : World) => HB (i.toNat + 1) Y ∧ Y.total = tot ∧ Y.dim = (mem.toNat, mon) ∧ HAt w.heap.size w w42 hb Y [] (some (lch b10 28 (actL (S.k i) (S.a i) (S.b i) (S.m i) (1 + sml (S.q i) 50) (1 + sml (S.p i) 300) (S.n i))) :: (some (lch b5 25 (cfL mem mon pa2 mon.toNat pc2 ma2 k2 mc2 rate cap)) :: RR))) (fun hk43 => ?_) ?_
    ·refine run_block <| run_seq <| run_seq <| run_region <| rl_v rfl rfl rfl (ov_eql rfl rfl rfl) <| rl_v rfl rfl rfl (ov_assign rfl rfl) <| rl_nil ?_
     first | refine run_cond_dec rfl (fun e0 => ?_) (fun n0 => ?_) | refine run_cond rfl (fun e0 => ?_) (fun n0 => ?_)
     ·refine run_skip ?_
      first | refine run_cond_dec rfl (fun qq => ?_) (fun qn => ?_) | refine run_cond rfl (fun qq => ?_) (fun qn => ?_)
      ·refine run_seq <| run_region <| rl_v rfl rfl rfl (ov_move rfl rfl) <| rl_v rfl rfl rfl (ov_fieldS rfl Try.underlying28 rfl (fo := 1) rfl (by kernel_rfl) rfl) ?_
       refine rl_v rfl rfl rfl (ov_load rfl Try.underlying3 rfl rfl (by exact (show _ = some (iv (S.a i)) from hA.fr.cellL 0 rfl (off := 1) rfl))) ?_
       refine rl_v rfl rfl rfl (ov_fieldS rfl Try.underlying28 rfl (fo := 6) rfl (by kernel_rfl) rfl) ?_
       refine rl_v rfl rfl rfl (ov_load rfl Try.underlying2 rfl rfl (by exact (show _ = some (iv (S.n i)) from hA.fr.cellL 0 rfl (off := 6) rfl))) ?_
       refine rl_call callable_23 rfl rfl rfl rfl rfl rfl (deposit_any hb w.heap.size X (S.a i) (S.n i) [] _ w w39 hA hG) (fun e44 w45 hp46 => ?_)
       obtain ⟨rfl, hA2⟩ := hp46
       refine ⟨_, rfl, ?_⟩
       refine rl_v rfl rfl rfl (ov_eql rfl rfl rfl) <| rl_nil ?_
       first | refine run_cond_dec rfl (fun d1 => ?_) (fun d1 => ?_) | refine run_cond rfl (fun d1 => ?_) (fun d1 => ?_)
       ·refine run_region <| rl_v rfl rfl rfl (ov_move rfl rfl) <| rl_v rfl rfl rfl (ov_fieldS rfl Try.underlying28 rfl (fo := 6) rfl (by kernel_rfl) rfl) ?_
        refine rl_v rfl rfl rfl (ov_load rfl Try.underlying2 rfl rfl (by exact (show _ = some (iv (S.n i)) from hA2.fr.cellL 0 rfl (off := 6) rfl))) ?_
        refine rl_v rfl rfl rfl (ov_add rfl rfl rfl (by have := (mny_zero d1).2; omega)) ?_
        refine rl_v rfl rfl rfl (ov_assign rfl rfl) <| rl_nil <| run_inBlock ?_
        refine Run.use (hk43 (X.deposit (S.a i) (S.n i)) (X.total + S.n i) _ ?_) (And.intro (by exact slot_int rfl (by first | omega)) (And.intro rfl (And.intro rfl (And.intro rfl (And.intro rfl trivial)))))
        exact ⟨hX.deposit _ _, by rw [total_deposit, if_pos d1], by rw [dep_mem]; exact hmm, hA2⟩
       ·refine run_skip <| run_inBlock ?_
        refine Run.use (hk43 (X.deposit (S.a i) (S.n i)) (X.total) _ ?_) (And.intro (by exact slot_int rfl (by first | omega)) (And.intro rfl (And.intro rfl (And.intro rfl (And.intro rfl trivial)))))
        exact ⟨hX.deposit _ _, by rw [total_deposit, if_neg d1], by rw [dep_mem]; exact hmm, hA2⟩
      ·exfalso; exact qn e0
     ·refine run_region <| rl_v rfl rfl rfl (ov_eql rfl rfl rfl) <| rl_v rfl rfl rfl (ov_assign rfl rfl) <| rl_nil ?_
      first | refine run_cond_dec rfl (fun e1 => ?_) (fun n1 => ?_) | refine run_cond rfl (fun e1 => ?_) (fun n1 => ?_)
      ·refine run_seq <| run_region <| rl_v rfl rfl rfl (ov_move rfl rfl) <| rl_v rfl rfl rfl (ov_fieldS rfl Try.underlying28 rfl (fo := 1) rfl (by kernel_rfl) rfl) ?_
       refine rl_v rfl rfl rfl (ov_load rfl Try.underlying3 rfl rfl (by exact (show _ = some (iv (S.a i)) from hA.fr.cellL 0 rfl (off := 1) rfl))) ?_
       refine rl_v rfl rfl rfl (ov_fieldS rfl Try.underlying28 rfl (fo := 6) rfl (by kernel_rfl) rfl) ?_
       refine rl_v rfl rfl rfl (ov_load rfl Try.underlying2 rfl rfl (by exact (show _ = some (iv (S.n i)) from hA.fr.cellL 0 rfl (off := 6) rfl))) ?_
       refine rl_call callable_23 rfl rfl rfl rfl rfl rfl (deposit_any hb w.heap.size X (S.a i) (S.n i) [] _ w w39 hA hG) (fun e47 w48 hp49 => ?_)
       obtain ⟨rfl, hA2⟩ := hp49
       refine ⟨_, rfl, ?_⟩
       refine rl_v rfl rfl rfl (ov_eql rfl rfl rfl) <| rl_nil ?_
       first | refine run_cond_dec rfl (fun d1 => ?_) (fun d1 => ?_) | refine run_cond rfl (fun d1 => ?_) (fun d1 => ?_)
       ·refine run_region <| rl_v rfl rfl rfl (ov_move rfl rfl) <| rl_v rfl rfl rfl (ov_fieldS rfl Try.underlying28 rfl (fo := 6) rfl (by kernel_rfl) rfl) ?_
        refine rl_v rfl rfl rfl (ov_load rfl Try.underlying2 rfl rfl (by exact (show _ = some (iv (S.n i)) from hA2.fr.cellL 0 rfl (off := 6) rfl))) ?_
        refine rl_v rfl rfl rfl (ov_add rfl rfl rfl (by have := (mny_zero d1).2; omega)) ?_
        refine rl_v rfl rfl rfl (ov_assign rfl rfl) <| rl_nil <| run_inBlock ?_
        refine Run.use (hk43 (X.deposit (S.a i) (S.n i)) (X.total + S.n i) _ ?_) (And.intro (by exact slot_int rfl (by first | omega)) (And.intro rfl (And.intro rfl (And.intro rfl (And.intro rfl trivial)))))
        exact ⟨hX.deposit _ _, by rw [total_deposit, if_pos d1], by rw [dep_mem]; exact hmm, hA2⟩
       ·refine run_skip <| run_inBlock ?_
        refine Run.use (hk43 (X.deposit (S.a i) (S.n i)) (X.total) _ ?_) (And.intro (by exact slot_int rfl (by first | omega)) (And.intro rfl (And.intro rfl (And.intro rfl (And.intro rfl trivial)))))
        exact ⟨hX.deposit _ _, by rw [total_deposit, if_neg d1], by rw [dep_mem]; exact hmm, hA2⟩
      ·refine run_seq <| run_region <| rl_v rfl rfl rfl (ov_eql rfl rfl rfl) <| rl_v rfl rfl rfl (ov_assign rfl rfl) <| rl_nil ?_
       first | refine run_cond_dec rfl (fun e2 => ?_) (fun n2 => ?_) | refine run_cond rfl (fun e2 => ?_) (fun n2 => ?_)
       ·refine run_seq <| run_region <| rl_v rfl rfl rfl (ov_move rfl rfl) <| rl_v rfl rfl rfl (ov_fieldS rfl Try.underlying28 rfl (fo := 1) rfl (by kernel_rfl) rfl) ?_
        refine rl_v rfl rfl rfl (ov_load rfl Try.underlying3 rfl rfl (by exact (show _ = some (iv (S.a i)) from hA.fr.cellL 0 rfl (off := 1) rfl))) ?_
        refine rl_v rfl rfl rfl (ov_fieldS rfl Try.underlying28 rfl (fo := 6) rfl (by kernel_rfl) rfl) ?_
        refine rl_v rfl rfl rfl (ov_load rfl Try.underlying2 rfl rfl (by exact (show _ = some (iv (S.n i)) from hA.fr.cellL 0 rfl (off := 6) rfl))) ?_
        refine rl_call callable_26 rfl rfl rfl rfl rfl rfl (withdraw_any hb w.heap.size X (S.a i) (S.n i) [] _ w w39 hA hG) (fun e50 w51 hp52 => ?_)
        obtain ⟨rfl, hA2⟩ := hp52
        refine ⟨_, rfl, ?_⟩
        refine rl_v rfl rfl rfl (ov_eql rfl rfl rfl) <| rl_nil ?_
        first | refine run_cond_dec rfl (fun d1 => ?_) (fun d1 => ?_) | refine run_cond rfl (fun d1 => ?_) (fun d1 => ?_)
        ·refine run_region <| rl_v rfl rfl rfl (ov_move rfl rfl) <| rl_v rfl rfl rfl (ov_fieldS rfl Try.underlying28 rfl (fo := 6) rfl (by kernel_rfl) rfl) ?_
         refine rl_v rfl rfl rfl (ov_load rfl Try.underlying2 rfl rfl (by exact (show _ = some (iv (S.n i)) from hA2.fr.cellL 0 rfl (off := 6) rfl))) ?_
         refine rl_v rfl rfl rfl (ov_sub rfl rfl rfl (by have := (mny_zero (spd_zero d1).1).2; omega)) ?_
         refine rl_v rfl rfl rfl (ov_assign rfl rfl) <| rl_nil <| run_inBlock ?_
         refine Run.use (hk43 (X.spent (S.a i) (S.n i)) (X.total - S.n i) _ ?_) (And.intro (by exact slot_int rfl (by first | omega)) (And.intro rfl (And.intro rfl (And.intro rfl (And.intro rfl trivial)))))
         exact ⟨hX.spent _ _, by rw [total_spent, if_pos d1], by rw [spe_mem]; exact hmm, hA2⟩
        ·refine run_skip <| run_inBlock ?_
         refine Run.use (hk43 (X.spent (S.a i) (S.n i)) (X.total) _ ?_) (And.intro (by exact slot_int rfl (by first | omega)) (And.intro rfl (And.intro rfl (And.intro rfl (And.intro rfl trivial)))))
         exact ⟨hX.spent _ _, by rw [total_spent, if_neg d1], by rw [spe_mem]; exact hmm, hA2⟩
       ·refine run_seq <| run_region <| rl_v rfl rfl rfl (ov_eql rfl rfl rfl) <| rl_v rfl rfl rfl (ov_assign rfl rfl) <| rl_nil ?_
        first | refine run_cond_dec rfl (fun e3 => ?_) (fun n3 => ?_) | refine run_cond rfl (fun e3 => ?_) (fun n3 => ?_)
        ·refine run_region <| rl_v rfl rfl rfl (ov_move rfl rfl) <| rl_v rfl rfl rfl (ov_fieldS rfl Try.underlying28 rfl (fo := 1) rfl (by kernel_rfl) rfl) ?_
         refine rl_v rfl rfl rfl (ov_load rfl Try.underlying3 rfl rfl (by exact (show _ = some (iv (S.a i)) from hA.fr.cellL 0 rfl (off := 1) rfl))) ?_
         refine rl_v rfl rfl rfl (ov_fieldS rfl Try.underlying28 rfl (fo := 6) rfl (by kernel_rfl) rfl) ?_
         refine rl_v rfl rfl rfl (ov_load rfl Try.underlying2 rfl rfl (by exact (show _ = some (iv (S.n i)) from hA.fr.cellL 0 rfl (off := 6) rfl))) ?_
         refine rl_call callable_27 rfl rfl rfl rfl rfl rfl (contribute_any hb w.heap.size X (S.a i) (S.n i) [] _ w w39 hA hG) (fun e53 w54 hp55 => ?_)
         obtain ⟨rfl, hA2⟩ := hp55
         refine ⟨_, rfl, ?_⟩
         refine rl_nil <| run_inBlock ?_
         refine Run.use (hk43 (X.contrib (S.a i) (S.n i)) (X.total) _ ?_) (And.intro (by exact slot_int rfl (by first | omega)) (And.intro rfl (And.intro rfl (And.intro rfl (And.intro rfl trivial)))))
         exact ⟨hX.contrib _ _, total_contrib _ _ _, by rw [cot_mem]; exact hmm, hA2⟩
        ·refine run_seq <| run_seq <| run_region <| rl_v rfl rfl rfl (ov_eql rfl rfl rfl) <| rl_v rfl rfl rfl (ov_assign rfl rfl) <| rl_nil ?_
         first | refine run_cond_dec rfl (fun e4 => ?_) (fun n4 => ?_) | refine run_cond rfl (fun e4 => ?_) (fun n4 => ?_)
         ·refine run_skip ?_
          first | refine run_cond_dec rfl (fun qq => ?_) (fun qn => ?_) | refine run_cond rfl (fun qq => ?_) (fun qn => ?_)
          ·refine run_region <| rl_v rfl rfl rfl (ov_move rfl rfl) <| rl_v rfl rfl rfl (ov_fieldS rfl Try.underlying28 rfl (fo := 1) rfl (by kernel_rfl) rfl) ?_
           refine rl_v rfl rfl rfl (ov_load rfl Try.underlying3 rfl rfl (by exact (show _ = some (iv (S.a i)) from hA.fr.cellL 0 rfl (off := 1) rfl))) ?_
           refine rl_v rfl rfl rfl (ov_fieldS rfl Try.underlying28 rfl (fo := 2) rfl (by kernel_rfl) rfl) ?_
           refine rl_v rfl rfl rfl (ov_load rfl Try.underlying3 rfl rfl (by exact (show _ = some (iv (S.b i)) from hA.fr.cellL 0 rfl (off := 2) rfl))) ?_
           refine rl_v rfl rfl rfl (ov_fieldS rfl Try.underlying28 rfl (fo := 3) rfl (by kernel_rfl) rfl) ?_
           refine rl_v rfl rfl rfl (ov_load rfl Try.underlying3 rfl rfl (by exact (show _ = some (iv (S.m i)) from hA.fr.cellL 0 rfl (off := 3) rfl))) ?_
           refine rl_v rfl rfl rfl (ov_fieldS rfl Try.underlying28 rfl (fo := 4) rfl (by kernel_rfl) rfl) ?_
           refine rl_v rfl rfl rfl (ov_load rfl Try.underlying2 rfl rfl (by exact (show _ = some (iv (1 + sml (S.q i) 50)) from hA.fr.cellL 0 rfl (off := 4) rfl))) ?_
           refine rl_v rfl rfl rfl (ov_fieldS rfl Try.underlying28 rfl (fo := 5) rfl (by kernel_rfl) rfl) ?_
           refine rl_v rfl rfl rfl (ov_load rfl Try.underlying2 rfl rfl (by exact (show _ = some (iv (1 + sml (S.p i) 300)) from hA.fr.cellL 0 rfl (off := 5) rfl))) ?_
           refine rl_v rfl rfl rfl (ov_buildL rfl lay_45 rfl (us := [_, _, _, _, _]) rfl) ?_
           refine rl_call callable_25 rfl rfl rfl rfl rfl rfl (trade_any hb w.heap.size X ⟨S.a i, S.b i, S.m i, 1 + sml (S.q i) 50, 1 + sml (S.p i) 300⟩ [] _ w w39 hA hG) (fun e56 w57 hp58 => ?_)
           obtain ⟨rfl, hA2⟩ := hp58
           refine ⟨_, rfl, ?_⟩
           refine rl_nil <| run_inBlock ?_
           refine Run.use (hk43 (X.trade ⟨S.a i, S.b i, S.m i, 1 + sml (S.q i) 50, 1 + sml (S.p i) 300⟩) (X.total) _ ?_) (And.intro (by exact slot_int rfl (by first | omega)) (And.intro rfl (And.intro rfl (And.intro rfl (And.intro rfl trivial)))))
           exact ⟨hX.trade _ (by show 1 + sml (S.q i) 50 ≤ 100; omega), total_trade _ _, by rw [tra_mem]; exact hmm, hA2⟩
          ·exfalso; exact qn e4
         ·refine run_seq <| run_region <| rl_v rfl rfl rfl (ov_eql rfl rfl rfl) <| rl_v rfl rfl rfl (ov_assign rfl rfl) <| rl_nil ?_
          first | refine run_cond_dec rfl (fun e5 => ?_) (fun n5 => ?_) | refine run_cond rfl (fun e5 => ?_) (fun n5 => ?_)
          ·refine run_skip ?_
           first | refine run_cond_dec rfl (fun qq => ?_) (fun qn => ?_) | refine run_cond rfl (fun qq => ?_) (fun qn => ?_)
           ·refine run_region <| rl_v rfl rfl rfl (ov_move rfl rfl) <| rl_v rfl rfl rfl (ov_fieldS rfl Try.underlying28 rfl (fo := 1) rfl (by kernel_rfl) rfl) ?_
            refine rl_v rfl rfl rfl (ov_load rfl Try.underlying3 rfl rfl (by exact (show _ = some (iv (S.a i)) from hA.fr.cellL 0 rfl (off := 1) rfl))) ?_
            refine rl_v rfl rfl rfl (ov_fieldS rfl Try.underlying28 rfl (fo := 2) rfl (by kernel_rfl) rfl) ?_
            refine rl_v rfl rfl rfl (ov_load rfl Try.underlying3 rfl rfl (by exact (show _ = some (iv (S.b i)) from hA.fr.cellL 0 rfl (off := 2) rfl))) ?_
            refine rl_v rfl rfl rfl (ov_fieldS rfl Try.underlying28 rfl (fo := 3) rfl (by kernel_rfl) rfl) ?_
            refine rl_v rfl rfl rfl (ov_load rfl Try.underlying3 rfl rfl (by exact (show _ = some (iv (S.m i)) from hA.fr.cellL 0 rfl (off := 3) rfl))) ?_
            refine rl_v rfl rfl rfl (ov_fieldS rfl Try.underlying28 rfl (fo := 4) rfl (by kernel_rfl) rfl) ?_
            refine rl_v rfl rfl rfl (ov_load rfl Try.underlying2 rfl rfl (by exact (show _ = some (iv (1 + sml (S.q i) 50)) from hA.fr.cellL 0 rfl (off := 4) rfl))) ?_
            refine rl_v rfl rfl rfl (ov_fieldS rfl Try.underlying28 rfl (fo := 5) rfl (by kernel_rfl) rfl) ?_
            refine rl_v rfl rfl rfl (ov_load rfl Try.underlying2 rfl rfl (by exact (show _ = some (iv (1 + sml (S.p i) 300)) from hA.fr.cellL 0 rfl (off := 5) rfl))) ?_
            refine rl_v rfl rfl rfl (ov_buildL rfl lay_45 rfl (us := [_, _, _, _, _]) rfl) ?_
            refine rl_call callable_25 rfl rfl rfl rfl rfl rfl (trade_any hb w.heap.size X ⟨S.a i, S.b i, S.m i, 1 + sml (S.q i) 50, 1 + sml (S.p i) 300⟩ [] _ w w39 hA hG) (fun e59 w60 hp61 => ?_)
            obtain ⟨rfl, hA2⟩ := hp61
            refine ⟨_, rfl, ?_⟩
            refine rl_nil <| run_inBlock ?_
            refine Run.use (hk43 (X.trade ⟨S.a i, S.b i, S.m i, 1 + sml (S.q i) 50, 1 + sml (S.p i) 300⟩) (X.total) _ ?_) (And.intro (by exact slot_int rfl (by first | omega)) (And.intro rfl (And.intro rfl (And.intro rfl (And.intro rfl trivial)))))
            exact ⟨hX.trade _ (by show 1 + sml (S.q i) 50 ≤ 100; omega), total_trade _ _, by rw [tra_mem]; exact hmm, hA2⟩
           ·exfalso; exact qn e5
          ·refine run_seq <| run_region <| rl_v rfl rfl rfl (ov_eql rfl rfl rfl) <| rl_v rfl rfl rfl (ov_assign rfl rfl) <| rl_nil ?_
           first | refine run_cond_dec rfl (fun e6 => ?_) (fun n6 => ?_) | refine run_cond rfl (fun e6 => ?_) (fun n6 => ?_)
           ·refine run_skip ?_
            first | refine run_cond_dec rfl (fun qq => ?_) (fun qn => ?_) | refine run_cond rfl (fun qq => ?_) (fun qn => ?_)
            ·refine run_region <| rl_v rfl rfl rfl (ov_move rfl rfl) <| rl_v rfl rfl rfl (ov_fieldS rfl Try.underlying28 rfl (fo := 1) rfl (by kernel_rfl) rfl) ?_
             refine rl_v rfl rfl rfl (ov_load rfl Try.underlying3 rfl rfl (by exact (show _ = some (iv (S.a i)) from hA.fr.cellL 0 rfl (off := 1) rfl))) ?_
             refine rl_v rfl rfl rfl (ov_fieldS rfl Try.underlying28 rfl (fo := 2) rfl (by kernel_rfl) rfl) ?_
             refine rl_v rfl rfl rfl (ov_load rfl Try.underlying3 rfl rfl (by exact (show _ = some (iv (S.b i)) from hA.fr.cellL 0 rfl (off := 2) rfl))) ?_
             refine rl_v rfl rfl rfl (ov_fieldS rfl Try.underlying28 rfl (fo := 3) rfl (by kernel_rfl) rfl) ?_
             refine rl_v rfl rfl rfl (ov_load rfl Try.underlying3 rfl rfl (by exact (show _ = some (iv (S.m i)) from hA.fr.cellL 0 rfl (off := 3) rfl))) ?_
             refine rl_v rfl rfl rfl (ov_fieldS rfl Try.underlying28 rfl (fo := 4) rfl (by kernel_rfl) rfl) ?_
             refine rl_v rfl rfl rfl (ov_load rfl Try.underlying2 rfl rfl (by exact (show _ = some (iv (1 + sml (S.q i) 50)) from hA.fr.cellL 0 rfl (off := 4) rfl))) ?_
             refine rl_v rfl rfl rfl (ov_fieldS rfl Try.underlying28 rfl (fo := 5) rfl (by kernel_rfl) rfl) ?_
             refine rl_v rfl rfl rfl (ov_load rfl Try.underlying2 rfl rfl (by exact (show _ = some (iv (1 + sml (S.p i) 300)) from hA.fr.cellL 0 rfl (off := 5) rfl))) ?_
             refine rl_v rfl rfl rfl (ov_buildL rfl lay_45 rfl (us := [_, _, _, _, _]) rfl) ?_
             refine rl_call callable_25 rfl rfl rfl rfl rfl rfl (trade_any hb w.heap.size X ⟨S.a i, S.b i, S.m i, 1 + sml (S.q i) 50, 1 + sml (S.p i) 300⟩ [] _ w w39 hA hG) (fun e62 w63 hp64 => ?_)
             obtain ⟨rfl, hA2⟩ := hp64
             refine ⟨_, rfl, ?_⟩
             refine rl_nil <| run_inBlock ?_
             refine Run.use (hk43 (X.trade ⟨S.a i, S.b i, S.m i, 1 + sml (S.q i) 50, 1 + sml (S.p i) 300⟩) (X.total) _ ?_) (And.intro (by exact slot_int rfl (by first | omega)) (And.intro rfl (And.intro rfl (And.intro rfl (And.intro rfl trivial)))))
             exact ⟨hX.trade _ (by show 1 + sml (S.q i) 50 ≤ 100; omega), total_trade _ _, by rw [tra_mem]; exact hmm, hA2⟩
            ·exfalso; exact qn e6
           ·refine run_region <| rl_v rfl rfl rfl (ov_eql rfl rfl rfl) <| rl_v rfl rfl rfl (ov_assign rfl rfl) <| rl_nil ?_
            first | refine run_cond_dec rfl (fun e7 => ?_) (fun n7 => ?_) | refine run_cond rfl (fun e7 => ?_) (fun n7 => ?_)
            ·refine run_region <| rl_v rfl rfl rfl (ov_move rfl rfl) <| rl_v rfl rfl rfl (ov_fieldS rfl Try.underlying28 rfl (fo := 1) rfl (by kernel_rfl) rfl) ?_
             refine rl_v rfl rfl rfl (ov_load rfl Try.underlying3 rfl rfl (by exact (show _ = some (iv (S.a i)) from hA.fr.cellL 0 rfl (off := 1) rfl))) ?_
             refine rl_v rfl rfl rfl (ov_fieldS rfl Try.underlying28 rfl (fo := 2) rfl (by kernel_rfl) rfl) ?_
             refine rl_v rfl rfl rfl (ov_load rfl Try.underlying3 rfl rfl (by exact (show _ = some (iv (S.b i)) from hA.fr.cellL 0 rfl (off := 2) rfl))) ?_
             refine rl_v rfl rfl rfl (ov_fieldS rfl Try.underlying28 rfl (fo := 3) rfl (by kernel_rfl) rfl) ?_
             refine rl_v rfl rfl rfl (ov_load rfl Try.underlying3 rfl rfl (by exact (show _ = some (iv (S.m i)) from hA.fr.cellL 0 rfl (off := 3) rfl))) ?_
             refine rl_v rfl rfl rfl (ov_fieldS rfl Try.underlying28 rfl (fo := 4) rfl (by kernel_rfl) rfl) ?_
             refine rl_v rfl rfl rfl (ov_load rfl Try.underlying2 rfl rfl (by exact (show _ = some (iv (1 + sml (S.q i) 50)) from hA.fr.cellL 0 rfl (off := 4) rfl))) ?_
             refine rl_v rfl rfl rfl (ov_fieldS rfl Try.underlying28 rfl (fo := 5) rfl (by kernel_rfl) rfl) ?_
             refine rl_v rfl rfl rfl (ov_load rfl Try.underlying2 rfl rfl (by exact (show _ = some (iv (1 + sml (S.p i) 300)) from hA.fr.cellL 0 rfl (off := 5) rfl))) ?_
             refine rl_v rfl rfl rfl (ov_buildL rfl lay_45 rfl (us := [_, _, _, _, _]) rfl) ?_
             refine rl_call callable_25 rfl rfl rfl rfl rfl rfl (trade_any hb w.heap.size X ⟨S.a i, S.b i, S.m i, 1 + sml (S.q i) 50, 1 + sml (S.p i) 300⟩ [] _ w w39 hA hG) (fun e65 w66 hp67 => ?_)
             obtain ⟨rfl, hA2⟩ := hp67
             refine ⟨_, rfl, ?_⟩
             refine rl_nil <| run_inBlock ?_
             refine Run.use (hk43 (X.trade ⟨S.a i, S.b i, S.m i, 1 + sml (S.q i) 50, 1 + sml (S.p i) 300⟩) (X.total) _ ?_) (And.intro (by exact slot_int rfl (by first | omega)) (And.intro rfl (And.intro rfl (And.intro rfl (And.intro rfl trivial)))))
             exact ⟨hX.trade _ (by show 1 + sml (S.q i) 50 ≤ 100; omega), total_trade _ _, by rw [tra_mem]; exact hmm, hA2⟩
            ·refine run_seq <| run_region <| rl_v rfl rfl rfl (ov_eql rfl rfl rfl) <| rl_v rfl rfl rfl (ov_assign rfl rfl) <| rl_nil ?_
             first | refine run_cond_dec rfl (fun e8 => ?_) (fun n8 => ?_) | refine run_cond rfl (fun e8 => ?_) (fun n8 => ?_)
             ·refine run_region <| rl_v rfl rfl rfl (ov_move rfl rfl) <| rl_v rfl rfl rfl (ov_fieldS rfl Try.underlying28 rfl (fo := 1) rfl (by kernel_rfl) rfl) ?_
              refine rl_v rfl rfl rfl (ov_load rfl Try.underlying3 rfl rfl (by exact (show _ = some (iv (S.a i)) from hA.fr.cellL 0 rfl (off := 1) rfl))) ?_
              refine rl_v rfl rfl rfl (ov_fieldS rfl Try.underlying28 rfl (fo := 2) rfl (by kernel_rfl) rfl) ?_
              refine rl_v rfl rfl rfl (ov_load rfl Try.underlying3 rfl rfl (by exact (show _ = some (iv (S.b i)) from hA.fr.cellL 0 rfl (off := 2) rfl))) ?_
              refine rl_v rfl rfl rfl (ov_fieldS rfl Try.underlying28 rfl (fo := 3) rfl (by kernel_rfl) rfl) ?_
              refine rl_v rfl rfl rfl (ov_load rfl Try.underlying3 rfl rfl (by exact (show _ = some (iv (S.m i)) from hA.fr.cellL 0 rfl (off := 3) rfl))) ?_
              refine rl_v rfl rfl rfl (ov_fieldS rfl Try.underlying28 rfl (fo := 4) rfl (by kernel_rfl) rfl) ?_
              refine rl_v rfl rfl rfl (ov_load rfl Try.underlying2 rfl rfl (by exact (show _ = some (iv (1 + sml (S.q i) 50)) from hA.fr.cellL 0 rfl (off := 4) rfl))) ?_
              refine rl_call callable_28 rfl rfl rfl rfl rfl rfl (deliver_any hb w.heap.size X (S.a i) (S.b i) (S.m i) (1 + sml (S.q i) 50) [] _ w w39 hA hG) (fun e68 w69 hp70 => ?_)
              obtain ⟨rfl, hA2⟩ := hp70
              refine ⟨_, rfl, ?_⟩
              refine rl_nil <| run_inBlock ?_
              refine Run.use (hk43 (X.deliver ⟨S.a i, S.b i, S.m i, 1 + sml (S.q i) 50, 1⟩) (X.total) _ ?_) (And.intro (by exact slot_int rfl (by first | omega)) (And.intro rfl (And.intro rfl (And.intro rfl (And.intro rfl trivial)))))
              exact ⟨hX.deliver _, total_deliver _ _, by rw [del_mem]; exact hmm, hA2⟩
             ·refine run_seq <| run_seq <| run_region <| rl_v rfl rfl rfl (ov_eql rfl rfl rfl) <| rl_v rfl rfl rfl (ov_assign rfl rfl) <| rl_nil ?_
              first | refine run_cond_dec rfl (fun e9 => ?_) (fun n9 => ?_) | refine run_cond rfl (fun e9 => ?_) (fun n9 => ?_)
              ·refine run_skip ?_
               first | refine run_cond_dec rfl (fun qq => ?_) (fun qn => ?_) | refine run_cond rfl (fun qq => ?_) (fun qn => ?_)
               ·refine run_region <| rl_v rfl rfl rfl (ov_move rfl rfl) <| rl_v rfl rfl rfl (ov_fieldS rfl Try.underlying28 rfl (fo := 3) rfl (by kernel_rfl) rfl) ?_
                refine rl_v rfl rfl rfl (ov_load rfl Try.underlying3 rfl rfl (by exact (show _ = some (iv (S.m i)) from hA.fr.cellL 0 rfl (off := 3) rfl))) ?_
                refine rl_v rfl rfl rfl (ov_fieldS rfl Try.underlying28 rfl (fo := 5) rfl (by kernel_rfl) rfl) ?_
                refine rl_v rfl rfl rfl (ov_load rfl Try.underlying2 rfl rfl (by exact (show _ = some (iv (1 + sml (S.p i) 300)) from hA.fr.cellL 0 rfl (off := 5) rfl))) ?_
                refine rl_call callable_22 rfl rfl rfl rfl rfl rfl (mark_any hb w.heap.size X (S.m i) (1 + sml (S.p i) 300) [] _ w w39 hA hG) (fun e71 w72 hp73 => ?_)
                obtain ⟨v, c, rfl, hrv, hlv, hA2⟩ := hp73
                refine ⟨_, rfl, ?_⟩
                refine rl_nil <| run_inBlock ?_
                refine Run.use (hk43 (X.mark (S.m i) (1 + sml (S.p i) 300)) (X.total) _ ?_) (And.intro (by exact slot_int rfl (by first | omega)) (And.intro rfl (And.intro rfl (And.intro rfl (And.intro rfl trivial)))))
                exact ⟨hX.mark (by omega) _ _ (by omega), total_mark hX _ _, by rw [mar_mem]; exact hmm, hA2.shed⟩
               ·exfalso; exact qn e9
              ·refine run_region <| rl_v rfl rfl rfl (ov_eql rfl rfl rfl) <| rl_v rfl rfl rfl (ov_assign rfl rfl) <| rl_nil ?_
               first | refine run_cond_dec rfl (fun e10 => ?_) (fun n10 => ?_) | refine run_cond rfl (fun e10 => ?_) (fun n10 => ?_)
               ·refine run_region <| rl_v rfl rfl rfl (ov_move rfl rfl) <| rl_v rfl rfl rfl (ov_fieldS rfl Try.underlying28 rfl (fo := 3) rfl (by kernel_rfl) rfl) ?_
                refine rl_v rfl rfl rfl (ov_load rfl Try.underlying3 rfl rfl (by exact (show _ = some (iv (S.m i)) from hA.fr.cellL 0 rfl (off := 3) rfl))) ?_
                refine rl_v rfl rfl rfl (ov_fieldS rfl Try.underlying28 rfl (fo := 5) rfl (by kernel_rfl) rfl) ?_
                refine rl_v rfl rfl rfl (ov_load rfl Try.underlying2 rfl rfl (by exact (show _ = some (iv (1 + sml (S.p i) 300)) from hA.fr.cellL 0 rfl (off := 5) rfl))) ?_
                refine rl_call callable_22 rfl rfl rfl rfl rfl rfl (mark_any hb w.heap.size X (S.m i) (1 + sml (S.p i) 300) [] _ w w39 hA hG) (fun e74 w75 hp76 => ?_)
                obtain ⟨v, c, rfl, hrv, hlv, hA2⟩ := hp76
                refine ⟨_, rfl, ?_⟩
                refine rl_nil <| run_inBlock ?_
                refine Run.use (hk43 (X.mark (S.m i) (1 + sml (S.p i) 300)) (X.total) _ ?_) (And.intro (by exact slot_int rfl (by first | omega)) (And.intro rfl (And.intro rfl (And.intro rfl (And.intro rfl trivial)))))
                exact ⟨hX.mark (by omega) _ _ (by omega), total_mark hX _ _, by rw [mar_mem]; exact hmm, hA2.shed⟩
               ·refine run_region <| rl_v rfl rfl rfl (ov_move rfl rfl) <| rl_v rfl rfl rfl (ov_fieldS rfl Try.underlying28 rfl (fo := 1) rfl (by kernel_rfl) rfl) ?_
                refine rl_v rfl rfl rfl (ov_load rfl Try.underlying3 rfl rfl (by exact (show _ = some (iv (S.a i)) from hA.fr.cellL 0 rfl (off := 1) rfl))) ?_
                refine rl_call callable_29 rfl rfl rfl rfl rfl rfl (default_any hb w.heap.size X (S.a i) [] _ w w39 hA hG (by omega) hX.Z) (fun e77 w78 hp79 => ?_)
                obtain ⟨rfl, hA2⟩ := hp79
                refine ⟨_, rfl, ?_⟩
                refine rl_nil <| run_inBlock ?_
                refine Run.use (hk43 (X.dflt (S.a i)) (X.total) _ ?_) (And.intro (by exact slot_int rfl (by first | omega)) (And.intro rfl (And.intro rfl (And.intro rfl (And.intro rfl trivial)))))
                exact ⟨hX.dflt (by omega) _, total_dflt hX _, by rw [dfl_mem]; exact hmm, hA2⟩
    ·intro Y tot w42 hJw42
     obtain ⟨hY, htot, hYm, hHY⟩ := hJw42
     show Run _ _ _ _ [(8, _), (1, _), (5, _), (6, _), (9, _)] _ _
     refine run_seq <| run_region <| rl_v rfl rfl rfl (ov_move rfl rfl) ?_
     refine rl_call callable_30 rfl rfl rfl rfl rfl rfl (total_any hb w.heap.size Y [] _ w w42 hHY (hY.hg (by omega))) (fun e80 w81 hp82 => ?_)
     obtain ⟨rfl, hHY2⟩ := hp82
     refine ⟨_, rfl, ?_⟩
     refine rl_v rfl rfl rfl (ov_move rfl rfl) <| rl_v rfl rfl rfl (ov_neq rfl rfl rfl) <| rl_nil ?_
     first | refine run_cond_dec rfl (fun t1 => ?_) (fun t1 => ?_) | refine run_cond rfl (fun t1 => ?_) (fun t1 => ?_)
     ·exfalso; exact t1 htot
     ·rw [← htot]
      refine run_skip <| run_inBlock <| run_region <| rl_v rfl rfl rfl (ov_move rfl rfl) <| rl_v rfl rfl rfl (ov_add rfl rfl rfl (by omega)) ?_
      refine rl_v rfl rfl rfl (ov_assign rfl rfl) <| rl_nil ?_
      refine Run.use (ih21 (i + 1) (Y) _ ?_ ?_) (And.intro (by exact slot_int rfl (by first | omega)) (And.intro (by exact slot_int rfl (by first | omega)) (And.intro rfl (And.intro rfl (And.intro rfl trivial)))))
      ·first | omega | (dsimp only; omega)
      ·exact ⟨by omega, by rw [show (i + 1).toNat = i.toNat + 1 by omega]; exact hY, hYm, hHY2.shed⟩
   ·have hXG := hX.hg (by omega)
    have hXmem : X.mem = mem.toNat := congrArg Prod.fst hmm
    have hXmo : X.mo = mon := congrArg Prod.snd hmm
    refine run_exit rfl <| run_seq <| run_seq <| run_region <| rl_v rfl rfl rfl (ov_assign rfl rfl) <| rl_nil <| run_block <| Run.keep [5, 6, 11] (F' := [(5, _), (6, _), (11, _)]) rfl <| run_loop1 (fun (m : Int) => [(11, .int .i64 m)]) [5, 6] (fun (m : Int) (w83 : World) => (0 ≤ m ∧ m ≤ mon) ∧ HAt w.heap.size w w83 hb X [] (some (lch b5 25 (cfL mem mon pa2 mon.toNat pc2 ma2 k2 mc2 rate cap)) :: RR)) (fun (m : Int) => (mon - m).toNat) (0) ?_ (And.intro (by exact slot_int rfl (by first | omega)) (And.intro rfl (And.intro rfl trivial))) ?_
    ·exact ⟨by omega, hH⟩
    intro m w83 hIw83 ih84
    obtain ⟨hm, hHm⟩ := hIw83
    show Run _ _ _ _ [(11, _), (5, _), (6, _)] _ _
    refine run_seq <| run_seq <| run_region <| rl_v rfl rfl rfl (ov_move rfl rfl) <| rl_v rfl rfl rfl (ov_fieldS rfl Try.underlying25 rfl (fo := 1) rfl (by kernel_rfl) rfl) ?_
    refine rl_v rfl rfl rfl (ov_load rfl Try.underlying3 rfl rfl (by exact (show _ = some (iv mon) from hHm.fr.cellL 0 rfl (off := 1) rfl))) ?_
    refine rl_v rfl rfl rfl (ov_lss rfl rfl rfl) <| rl_nil ?_
    first | refine run_cond_dec rfl (fun h2 => ?_) (fun h2 => ?_) | refine run_cond rfl (fun h2 => ?_) (fun h2 => ?_)
    ·have hsb : ∀ k : Int, 0 ≤ k → k ≤ X.mem → -(k * ((5000 : Nat) : Int)) ≤ sm (fun j => (X.ac j).pos m) k ∧ sm (fun j => (X.ac j).pos m) k ≤ k * ((5000 : Nat) : Int) := fun k k0 k1 => sm_abs _ k0 fun j j0 j1 => by
      have := hX.pos j j0 (by omega) m hm.1 (by omega)
      omega
     refine run_skip <| run_seq <| run_block <| run_seq <| run_region <| rl_v rfl rfl rfl (ov_assign rfl rfl) <| rl_nil <| run_seq <| run_seq <| run_region <| rl_v rfl rfl rfl (ov_assign rfl rfl) <| rl_nil <| run_block <| Run.keep [5, 6, 11, 12, 13] (F' := [(5, _), (6, _), (11, _), (12, _), (13, _)]) rfl <| run_loop1 (fun (j : Int) => [(12, .int .i64 (sm (fun j => (X.ac j).pos m) (j - 1))), (13, .int .i64 j)]) [5, 6, 11] (fun (j : Int) (w85 : World) => (1 ≤ j ∧ j ≤ mem + 1) ∧ HAt w.heap.size w w85 hb X [] (some (lch b5 25 (cfL mem mon pa2 mon.toNat pc2 ma2 k2 mc2 rate cap)) :: RR)) (fun (j : Int) => (mem + 1 - j).toNat) (1) ?_ (And.intro (by rfl) (And.intro (by exact slot_int rfl (by first | omega)) (And.intro rfl (And.intro rfl (And.intro rfl trivial))))) ?_
     ·exact ⟨by omega, hHm⟩
     intro j w85 hIw85 ih86
     obtain ⟨hj, hHj⟩ := hIw85
     show Run _ _ _ _ [(12, _), (13, _), (5, _), (6, _), (11, _)] _ _
     refine run_seq <| run_seq <| run_region <| rl_v rfl rfl rfl (ov_move rfl rfl) <| rl_v rfl rfl rfl (ov_fieldS rfl Try.underlying25 rfl (fo := 0) rfl (by kernel_rfl) rfl) ?_
     refine rl_v rfl rfl rfl (ov_load rfl Try.underlying3 rfl rfl (by exact (show _ = some (iv mem) from hHj.fr.cellL 0 rfl (off := 0) rfl))) ?_
     refine rl_v rfl rfl rfl (ov_leq rfl rfl rfl) <| rl_nil ?_
     first | refine run_cond_dec rfl (fun h3 => ?_) (fun h3 => ?_) | refine run_cond rfl (fun h3 => ?_) (fun h3 => ?_)
     ·have his : X.is j := ⟨hj.1, by omega⟩
      refine run_skip <| run_seq <| run_block <| run_seq <| run_region <| rl_v rfl rfl rfl (ov_move rfl rfl) <| rl_v rfl rfl rfl (ov_move rfl rfl) ?_
      refine rl_call callable_31 rfl rfl rfl rfl rfl rfl (account_any hb w.heap.size X j [] _ w w85 hHj hXG) (fun e87 w88 hp89 => ?_)
      obtain ⟨v, cv, rfl, hrv, hHk⟩ := hp89
      refine ⟨_, rfl, ?_⟩
      rw [if_pos his] at hrv
      obtain ⟨av, xv, rfl⟩ := hrv.val
      have hkn : X.kno j = X.ac (j - 1) := if_pos his
      obtain ⟨K5, N5, hO9, hK5, hPl5⟩ := hHk
      refine rl_v rfl rfl rfl (ov_move rfl rfl) <| rl_v rfl rfl rfl (ov_extract rfl rfl (by rfl)) ?_
      refine rl_v rfl rfl rfl (ov_extract rfl rfl (by rfl)) ?_
      refine rl_ow rfl (ow_alloc _ rfl rfl rfl zero_64 rfl hO9) ?_
      rintro _ w90 ⟨b14, rfl, hO91, hs92⟩
      refine rl_ow rfl (ow_storeW rfl rfl (by kernel_rfl) hO91 0 rfl rfl (by rfl) rfl (by rfl)) ?_
      rintro _ w93 ⟨rfl, hO94, hs95⟩
      have hA := HAt.push hO94 hK5 hPl5
      refine rl_v rfl rfl rfl (ov_assign rfl rfl) <| rl_nil <| run_seq <| run_seq <| run_region <| rl_v rfl rfl rfl (ov_move rfl rfl) <| rl_v rfl rfl rfl (ov_neq rfl rfl rfl) <| rl_v rfl rfl rfl (ov_move rfl rfl) ?_
      first | refine rl_noD 162 rfl (fun h => h (if_pos his)) ?_ | refine rl_no 162 rfl (fun h => h (if_pos his)) ?_
      refine rl_gv rfl rfl rfl rfl rfl (ov_fieldS rfl Try.underlying64 rfl (fo := 2) rfl (by kernel_rfl) rfl) ?_
      refine rl_gv rfl rfl rfl rfl rfl (ov_load rfl Try.underlying22 rfl rfl (by exact hA.fr.cellL 0 rfl (off := 2) rfl)) ?_
      refine rl_gv rfl rfl rfl rfl rfl (ov_len rfl Try.underlying22 rfl) <| rl_gv rfl rfl rfl rfl rfl (ov_fieldS rfl Try.underlying25 rfl (fo := 1) rfl (by kernel_rfl) rfl) ?_
      refine rl_gv rfl rfl rfl rfl rfl (ov_load rfl Try.underlying3 rfl rfl (by exact (show _ = some (iv mon) from hA.fr.cellL 2 rfl (off := 1) rfl))) ?_
      refine rl_gv rfl rfl rfl rfl rfl (ov_neq rfl rfl rfl) <| rl_v rfl rfl rfl (ov_pick_f rfl rfl rfl) <| rl_v rfl rfl rfl (ov_move rfl rfl) ?_
      first | refine rl_noD 170 rfl (fun h => h (by rw [hXmo]; omega)) ?_ | refine rl_no 170 rfl (fun h => h (by rw [hXmo]; omega)) ?_
      refine rl_gv rfl rfl rfl rfl rfl (ov_fieldS rfl Try.underlying64 rfl (fo := 1) rfl (by kernel_rfl) rfl) ?_
      refine rl_gv rfl rfl rfl rfl rfl (ov_load rfl Try.underlying2 rfl rfl (by exact hA.fr.cellL 0 rfl (off := 1) rfl)) ?_
      refine rl_gv rfl rfl rfl rfl rfl (ov_lss rfl rfl rfl) <| rl_v rfl rfl rfl (ov_pick_f rfl rfl rfl) <| rl_nil ?_
      first | refine run_cond_dec rfl (fun f1 => ?_) (fun f1 => ?_) | refine run_cond rfl (fun f1 => ?_) (fun f1 => ?_)
      ·exfalso; rw [hkn] at f1; have := hX.fund (j - 1) (by omega) (by omega); omega
      ·obtain ⟨vb, vo, hva, hvr⟩ := (hrv.reads hA.fr 1 rfl).open
       have hs1 := hsb (j - 1) (by omega) (by omega)
       have hp1 := hX.pos (j - 1) (by omega) (by omega) m hm.1 (by omega)
       have hp2 : (X.kno j).pos m = (X.ac (j - 1)).pos m := by rw [hkn]
       have hsu : sm (fun j => (X.ac j).pos m) (j + 1 - 1) = sm (fun j => (X.ac j).pos m) (j - 1) + (X.ac (j - 1)).pos m := by
        rw [show j + 1 - 1 = j - 1 + 1 by omega]
        exact sm_succ _ (by omega)
       refine run_skip <| run_region <| rl_v rfl rfl rfl (ov_move rfl rfl) <| rl_v rfl rfl rfl (ov_fieldS rfl Try.underlying64 rfl (fo := 2) rfl (by kernel_rfl) rfl) ?_
       refine rl_v rfl rfl rfl (ov_load rfl Try.underlying22 rfl rfl (by exact hA.fr.cellL 0 rfl (off := 2) rfl)) ?_
       refine rl_v rfl rfl rfl (ov_move rfl rfl) <| rl_v rfl rfl rfl (ov_index1 rfl Try.underlying22 (by kernel_rfl) rfl rfl ⟨by omega, by omega⟩ (by exact (hva (by omega)))) ?_
       refine rl_v rfl rfl rfl (ov_load rfl Try.underlying2 rfl rfl (by exact hvr _ (Below.refl _ _) m hm.1 (by omega))) ?_
       refine rl_v rfl rfl rfl (ov_add rfl rfl rfl (by omega)) ?_
       refine rl_v rfl rfl rfl (ov_assign rfl rfl) <| rl_nil <| run_inBlock <| run_region <| rl_v rfl rfl rfl (ov_move rfl rfl) <| rl_v rfl rfl rfl (ov_add rfl rfl rfl (by omega)) ?_
       refine rl_v rfl rfl rfl (ov_assign rfl rfl) <| rl_nil ?_
       refine Run.use (ih86 (j + 1) _ ?_ ?_) (And.intro (by exact slot_int rfl (by first | omega)) (And.intro (by exact slot_int rfl (by first | omega)) (And.intro rfl (And.intro rfl (And.intro rfl trivial)))))
       ·first | omega | (dsimp only; omega)
       ·exact ⟨by omega, hA.shed.shed⟩
     ·obtain rfl : j = mem + 1 := by omega
      have hz : sm (fun j => (X.ac j).pos m) (mem + 1 - 1) = 0 := by
       rw [show mem + 1 - 1 = (X.mem : Int) by omega]
       exact hX.Z.zero m hm.1 (by omega)
      refine run_exit rfl <| run_seq <| run_region <| rl_v rfl rfl rfl (ov_move rfl rfl) <| rl_v rfl rfl rfl (ov_neq rfl rfl rfl) <| rl_nil ?_
      first | refine run_cond_dec rfl (fun z1 => ?_) (fun z1 => ?_) | refine run_cond rfl (fun z1 => ?_) (fun z1 => ?_)
      ·exfalso; exact z1 hz
      ·refine run_skip <| run_inBlock <| run_region <| rl_v rfl rfl rfl (ov_move rfl rfl) <| rl_v rfl rfl rfl (ov_add rfl rfl rfl (by omega)) ?_
       refine rl_v rfl rfl rfl (ov_assign rfl rfl) <| rl_nil ?_
       refine Run.use (ih84 (m + 1) _ ?_ ?_) (And.intro (by exact slot_int rfl (by first | omega)) (And.intro rfl (And.intro rfl trivial)))
       ·first | omega | (dsimp only; omega)
       ·exact ⟨by omega, hHj⟩
    ·refine run_exit rfl <| run_seq <| run_region ?_
     refine rl_call callable_21 rfl rfl rfl rfl rfl rfl (awake_any w.heap.size _ w w83 hHm.fr) (fun e96 w97 hp98 => ?_)
     obtain ⟨rfl, hOz⟩ := hp98
     refine ⟨_, rfl, ?_⟩
     refine rl_v rfl rfl rfl (ov_assign rfl rfl) <| rl_nil <| run_ret Try.func4 (res1 Try.results4 rfl) ?_
     exact ⟨rfl, hOz.below⟩
end Go.Proofs.Ytfbbagnpdfafjaa
