import Derived.Test.YtfbbagnpdfafjaaHcV
set_option maxRecDepth 100000
namespace Go.Proofs.Ytfbbagnpdfafjaa
open Go.RowKit Go.Proofs
set_option maxHeartbeats 4000000 in
theorem holds9_any (mm mn : Int) (pa ma la : Option Addr) (pn pc mk mc ln lc : Nat) (rt cp : Int) (P0 : Int → Int) (L0 : Int → Nat) (F0 : Int → Int → Int) (S : HActs) (sc : Int) (w : World) (hP : IAt w.heap.size w pa pn (fun i => iv (P0 i))) (hT : ITab w.heap.size w ma mk L0 (fun r c => iv (F0 r c))) (hS : SAt w.heap.size w la 7 ln S.l) :
  Calls Try.prog 5 #[.agg (cfL mm mn pa pn pc ma mk mc rt cp).toArray, .slice la ln lc, iv sc] w fun e w' => e = .returned (.bool true) ∧ Below w.heap.size w w' := by
 refine calls_of_run (F := [(0, _), (1, _), (2, _)]) Try.func5 rfl Try.ntmps5 rfl rfl <| run_seq <| run_region <| rl_ow rfl (ow_box _ rfl rfl rfl rfl rfl (Own.init w)) ?_
 rintro _ w1 ⟨b3, rfl, hO2, hs3⟩
 refine rl_v rfl rfl rfl (ov_assign rfl rfl) <| rl_nil <| run_seq <| run_region <| rl_v rfl rfl rfl (ov_loadW rfl Try.underlying25 rfl (by kernel_rfl) rfl hO2 0 rfl) ?_
 refine rl_call callable_15 rfl rfl rfl rfl rfl rfl (tame_any mm mn pa ma pn pc mk mc rt cp P0 L0 F0 w.heap.size _ w w1 hO2 hP hT) (fun e4 w5 hp6 => ?_)
 obtain ⟨mem, mon, pa2, ma2, pc2, k2, mc2, P, F, rate, cap, N, rfl, hC9, hO2⟩ := hp6
 refine ⟨_, rfl, ?_⟩
 have hC : TameC N mem mon pa2 ma2 pc2 k2 mc2 P F 0 cap := { hC9 with hrate := by decide }
 have hmem := hC.hmem
 have hmon := hC.hmon
 have hk := hC.hk
 refine rl_ow rfl (ow_alloc _ rfl rfl rfl zero_25 rfl hO2) ?_
 rintro _ w7 ⟨b7, rfl, hO8, hs9⟩
 refine rl_ow rfl (ow_storeW rfl rfl (by kernel_rfl) hO8 0 rfl rfl (by rfl) rfl (by rfl)) ?_
 rintro _ w10 ⟨rfl, hO11, hs12⟩
 refine rl_nil <| run_seq <| run_region <| rl_v rfl rfl rfl (ov_fieldS rfl Try.underlying25 rfl (fo := 4) rfl (by kernel_rfl) rfl) ?_
 refine rl_ow rfl (ow_storeL rfl rfl (by kernel_rfl) hO11 0 rfl rfl rfl rfl rfl) ?_
 rintro _ w13 ⟨rfl, hO14, hs15⟩
 have hO3 : Own w.heap.size w w13 (some (lch b7 25 (cfL mem mon pa2 mon.toNat pc2 ma2 k2 mc2 0 cap)) :: (N ++ [some (lch b3 25 (cfL mm mn pa pn pc ma mk mc rt cp))])) := hO14
 refine rl_nil <| run_seq <| run_region <| rl_v rfl rfl rfl (ov_loadW rfl Try.underlying25 rfl (by kernel_rfl) rfl hO3 0 rfl) ?_
 refine rl_v rfl rfl rfl (ov_move rfl rfl) ?_
 refine rl_call callable_16 rfl rfl rfl rfl rfl rfl (run_any mem mon pa2 ma2 la pc2 k2 mc2 ln lc P F 0 cap 25 S N w.heap.size _ w w13 hO3 (.cons _ (List.sublist_append_left _ _)) hC hS (by decide)) (fun e16 w17 hp18 => ?_)
 obtain ⟨hb, X, T, G, rfl, ⟨hX, hsm, _⟩, hI, hH0⟩ := hp18
 refine ⟨_, rfl, ?_⟩
 have hXG := hX.gg (by omega)
 have hG := hXG.g
 have hXmo : X.mo = mon := congrArg Prod.snd hsm.dim
 have hXr : X.rate = 0 := hsm.rate
 have hXk : X.k = k2 := hsm.k
 have hmn := X.mn_eq hXG.mo
 obtain ⟨RR, hRR⟩ : ∃ RR, RR = T ++ (some (lch b7 25 (cfL mem mon pa2 mon.toNat pc2 ma2 k2 mc2 0 cap)) :: (N ++ [some (lch b3 25 (cfL mm mn pa pn pc ma mk mc rt cp))])) := ⟨_, rfl⟩
 obtain ⟨TN, hTN⟩ : ∃ TN, TN = T ++ N := ⟨_, rfl⟩
 have hsI : TN.Sublist RR := by rw [hRR, hTN]; exact List.Sublist.append_left (.cons _ (List.sublist_append_left _ _)) T
 have hs7 : [some (lch b7 25 (cfL mem mon pa2 mon.toNat pc2 ma2 k2 mc2 0 cap))].Sublist RR := by
  rw [hRR]
  exact (List.Sublist.cons_cons _ (List.nil_sublist _)).trans (List.sublist_append_right T _)
 have hsN0 : N.Sublist RR := by rw [hRR]; exact (List.Sublist.cons _ (List.sublist_append_left _ _)).trans (List.sublist_append_right T _)
 replace hH0 : HAt w.heap.size w w17 hb X [] RR := by rw [hRR]; exact hH0
 replace hI : GIn TN X G := by rw [hTN]; exact hI
 clear hRR hTN
 obtain ⟨K1, N1, hO4, hK1, hP1⟩ := hH0.open
 refine rl_v rfl rfl rfl (ov_move rfl rfl) <| rl_v rfl rfl rfl (ov_extract rfl rfl (by rfl)) ?_
 refine rl_v rfl rfl rfl (ov_extract rfl rfl (by rfl)) ?_
 refine rl_ow rfl (ow_alloc _ rfl rfl rfl zero_34 rfl hO4) ?_
 rintro _ w19 ⟨b9, rfl, hO20, hs21⟩
 refine rl_v rfl rfl rfl (ov_assign rfl rfl) <| rl_ow rfl (ow_storeW rfl rfl (by kernel_rfl) hO20 0 rfl rfl (by rfl) rfl (by rfl)) ?_
 rintro _ w22 ⟨rfl, hO23, hs24⟩
 have hH1 : HAt w.heap.size w w22 hb X [] (some (lch b9 34 (ghL X G)) :: RR) := HAt.puts [some (lch b9 34 (ghL X G))] hO23 hK1 hP1
 have hs79 : [some (lch b7 25 (cfL mem mon pa2 mon.toNat pc2 ma2 k2 mc2 0 cap))].Sublist (some (lch b9 34 (ghL X G)) :: RR) := .cons _ hs7
 refine rl_nil <| run_seq <| run_seq <| run_region <| rl_v rfl rfl rfl (ov_move rfl rfl) <| rl_v rfl rfl rfl (ov_ptrnil rfl Try.underlying30 rfl) <| rl_nil <| run_cond_f rfl <| run_skip <| run_seq <| run_seq <| run_region <| rl_v rfl rfl rfl (ov_fieldS rfl Try.underlying25 rfl (fo := 3) rfl (by kernel_rfl) rfl) ?_
 refine rl_v rfl rfl rfl (ov_load rfl Try.underlying23 rfl rfl (by exact (hH1.own.sub hs79).cellL 0 rfl (off := 3) rfl)) ?_
 refine rl_v rfl rfl rfl (ov_len rfl Try.underlying23 rfl) <| rl_v rfl rfl rfl (ov_eql rfl rfl rfl) <| rl_nil ?_
 first | refine run_cond_dec rfl (fun hk0 => ?_) (fun hk0 => ?_) | refine run_cond rfl (fun hk0 => ?_) (fun hk0 => ?_)
 ·refine run_seq <| run_region ?_
  refine rl_call callable_21 rfl rfl rfl rfl rfl rfl (hH1.call1 (Q := fun e => e = _) (fun H hO _ => awake_any w.heap.size H w w22 hO)) (fun e25 w26 hp27 => ?_)
  obtain ⟨rfl, hH2⟩ := hp27
  refine ⟨_, rfl, ?_⟩
  refine rl_v rfl rfl rfl (ov_assign rfl rfl) <| rl_nil <| run_ret Try.func5 (res1 Try.results5 rfl) ?_
  exact ⟨rfl, (hH2.own).below⟩
 ·have hk1 : 0 < k2 := by omega
  have hmr : 0 ≤ IntKind.u64.wrap sc % (k2 : Int) ∧ IntKind.u64.wrap sc % (k2 : Int) < k2 := ⟨Int.emod_nonneg _ (by omega), Int.emod_lt_of_pos _ (by omega)⟩
  obtain ⟨s, hs⟩ : ∃ s, s = IntKind.u64.wrap sc % (k2 : Int) := ⟨_, rfl⟩
  have hs2 : 0 ≤ s ∧ s < X.k := by rw [hXk, hs]; exact hmr
  refine run_skip <| run_seq <| run_region <| rl_v rfl rfl rfl (ov_move rfl rfl) <| rl_v rfl rfl rfl (ov_conv rfl Try.underlying3 Try.underlying42 rfl) <| rl_v rfl rfl rfl (ov_fieldS rfl Try.underlying25 rfl (fo := 3) rfl (by kernel_rfl) rfl) ?_
  refine rl_v rfl rfl rfl (ov_load rfl Try.underlying23 rfl rfl (by exact (hH1.own.sub hs79).cellL 0 rfl (off := 3) rfl)) ?_
  refine rl_v rfl rfl rfl (ov_len rfl Try.underlying23 rfl) <| rl_v rfl rfl rfl (nv (ov_conv rfl Try.underlying3 Try.underlying42 rfl) ((wPos (by omega) (by omega)).trans (Int.toNat_of_nonneg (by omega)))) ?_
  refine rl_v rfl rfl rfl (ov_rem rfl rfl rfl (u64_nn _) (by omega)) ?_
  refine rl_v rfl rfl rfl (nv (ov_conv rfl Try.underlying42 Try.underlying3 rfl) ((IntWalk.i64_in _ (by omega)).trans hs.symm)) ?_
  refine rl_v rfl rfl rfl (ov_assign rfl rfl) <| rl_nil <| run_seq <| run_region <| rl_v rfl rfl rfl (ov_move rfl rfl) ?_
  refine rl_call callable_32 rfl rfl rfl rfl rfl rfl (calls_in hb w.heap.size X [] _ w w22 hH1 hG) (fun e28 w29 hp30 => ?_)
  obtain ⟨v, c, rfl, hr, hlen, hH2⟩ := hp30
  refine ⟨_, rfl, ?_⟩
  obtain ⟨a7, p7, rfl⟩ := hr.val
  have hsN : N.Sublist RR := hsN0
  obtain ⟨A, Cc, hA1, hA2, hA3⟩ := hC.ms
  have hFm : ∀ m : Int, 0 ≤ m → m < mon → F s m = X.mv s m := fun m _ m1 => by
   rw [hsm.mv]
   exact (if_pos m1).symm
  obtain ⟨pb0, po0, ep0, rp0⟩ := hI.pv.at (hH2.own.sub (.cons _ (.cons _ hsI))) (by omega)
  obtain ⟨tb, to, et, rt⟩ := SrcV.at hA1 (hH2.own.sub (.cons _ (.cons _ hsN))) hk1
  obtain ⟨eb, eo, ee, re⟩ := (hA2 s hs2.1 (by omega)).at (hH2.own.sub (.cons _ (.cons _ hsN))) (show 0 < mon.toNat by omega)
  have hsC : [some (lch b7 25 (cfL mem mon pa2 mon.toNat pc2 ma2 k2 mc2 0 cap))].Sublist (c :: some (lch b9 34 (ghL X G)) :: RR) := .cons _ hs79
  refine rl_v rfl rfl rfl (ov_assign rfl rfl) <| rl_nil <| run_seq <| run_seq <| run_region <| rl_v rfl rfl rfl (ov_assign rfl rfl) <| rl_nil <| run_block <| Run.keep [7, 8, 9, 10, 11, 12] (F' := [(7, _), (8, _), (9, _), (10, _), (11, _), (12, _)]) rfl <| run_loop1 (fun (m : Int) => [(12, .int .i64 m)]) [7, 8, 9, 10, 11] (fun (m : Int) (w31 : World) => (0 ≤ m ∧ m ≤ mon) ∧ (∀ k : Int, 0 ≤ k → k < m → 1 ≤ X.pr k + X.mv s k) ∧ HAt w.heap.size w w31 hb (X.mvM s m) [] (c :: some (lch b9 34 (ghL X G)) :: RR)) (fun (m : Int) => (mon - m).toNat) (0) ?_ (And.intro (by exact slot_int rfl (by first | omega)) (And.intro rfl (And.intro rfl (And.intro rfl (And.intro rfl (And.intro rfl trivial)))))) ?_
  ·exact ⟨by omega, fun k k0 k1 => by omega, by rw [mvM_zero]; exact hH2⟩
  intro m w31 hIw31 ih32
  obtain ⟨hm, hpm, hH3⟩ := hIw31
  show Run _ _ _ _ [(12, _), (7, _), (8, _), (9, _), (10, _), (11, _)] _ _
  have hHG := mvM_hg hX hs2.1 hs2.2 hm.1 (by omega) hpm
  refine run_seq <| run_seq <| run_region <| rl_v rfl rfl rfl (ov_move rfl rfl) <| rl_v rfl rfl rfl (ov_fieldS rfl Try.underlying25 rfl (fo := 1) rfl (by kernel_rfl) rfl) ?_
  refine rl_v rfl rfl rfl (ov_load rfl Try.underlying3 rfl rfl (by exact ((hH3.own).sub hsC).cellL 0 rfl (off := 1) rfl)) ?_
  refine rl_v rfl rfl rfl (ov_lss rfl rfl rfl) <| rl_nil ?_
  first | refine run_cond_dec rfl (fun h1 => ?_) (fun h1 => ?_) | refine run_cond rfl (fun h1 => ?_) (fun h1 => ?_)
  ·have hmX : 0 ≤ m ∧ m < X.mo := by omega
   have hprm := hX.pr m hmX.1 hmX.2
   have hmvm := hX.mv s hs2.1 hs2.2 m hm.1 (by omega)
   refine run_skip <| run_seq <| run_block <| run_seq <| run_class (fun w' => HAt w.heap.size w w' hb (X.mvM s m) [] (c :: some (lch b9 34 (ghL X G)) :: RR)) (hH3.drewH) mixed (by kernel_rfl) ?_
   refine rk_v rfl rfl rfl (fun wq hQ => ov_fieldS rfl Try.underlying34 rfl (fo := 6) rfl (by kernel_rfl) rfl) ?_
   refine rk_v rfl rfl rfl (fun wq hQ => ov_load rfl Try.underlying22 rfl rfl (by exact (hQ.own).cellL 1 rfl (off := 6) rfl)) ?_
   refine rk_v rfl rfl rfl (fun wq hQ => ov_move rfl rfl) ?_
   refine rk_v rfl rfl rfl (fun wq hQ => ov_index1 rfl Try.underlying22 (by kernel_rfl) rfl rfl ⟨by omega, by omega⟩ (by exact (id ep0))) ?_
   refine rk_v rfl rfl rfl (fun wq hQ => ov_load rfl Try.underlying2 rfl rfl (by exact rp0 ((hQ.own).sub (.cons _ (.cons _ hsI))) m (by omega) (by omega))) ?_
   refine rk_v rfl rfl rfl (fun wq hQ => ov_fieldS rfl Try.underlying25 rfl (fo := 3) rfl (by kernel_rfl) rfl) ?_
   refine rk_v rfl rfl rfl (fun wq hQ => ov_load rfl Try.underlying23 rfl rfl (by exact ((hQ.own).sub hsC).cellL 0 rfl (off := 3) rfl)) ?_
   refine rk_v rfl rfl rfl (fun wq hQ => ov_move rfl rfl) ?_
   refine rk_v rfl rfl rfl (fun wq hQ => ov_index1 rfl Try.underlying23 (by kernel_rfl) rfl rfl ⟨by omega, by omega⟩ (by exact (id et))) ?_
   refine rk_v rfl rfl rfl (fun wq hQ => ov_load rfl Try.underlying22 rfl rfl (by exact (show _ = some (Value.slice (A s) mon.toNat (Cc s)) from rt ((hQ.own).sub (.cons _ (.cons _ hsN))) s hs2.1 (by omega)))) ?_
   refine rk_v rfl rfl rfl (fun wq hQ => ov_move rfl rfl) ?_
   refine rk_v rfl rfl rfl (fun wq hQ => ov_index1 rfl Try.underlying22 (by kernel_rfl) rfl rfl ⟨by omega, by omega⟩ (by exact (id ee))) ?_
   refine rk_v rfl rfl rfl (fun wq hQ => ov_load rfl Try.underlying2 rfl rfl (by exact (show _ = some (iv (X.mv s m)) from by rw [← hFm m hm.1 h1]; exact re ((hQ.own).sub (.cons _ (.cons _ hsN))) m hm.1 (show m < (mon.toNat : Int) by omega)))) ?_
   refine rk_v rfl rfl rfl (fun wq hQ => ov_add rfl rfl rfl (by omega)) ?_
   refine rk_v rfl rfl rfl (fun wq hQ => ov_assign rfl rfl) ?_
   refine rk_nil (fun w33 hH3' => ?_)
   refine run_seq <| run_seq <| run_region <| rl_v rfl rfl rfl (ov_move rfl rfl) <| rl_v rfl rfl rfl (ov_lss rfl rfl rfl) <| rl_nil ?_
   first | refine run_cond_dec rfl (fun h2 => ?_) (fun h2 => ?_) | refine run_cond rfl (fun h2 => ?_) (fun h2 => ?_)
   ·refine run_seq <| run_region ?_
    refine rl_call callable_21 rfl rfl rfl rfl rfl rfl (hH3'.call1 (Q := fun e => e = _) (fun H hO _ => awake_any w.heap.size H w w33 hO)) (fun e34 w35 hp36 => ?_)
    obtain ⟨rfl, hH4⟩ := hp36
    refine ⟨_, rfl, ?_⟩
    refine rl_v rfl rfl rfl (ov_assign rfl rfl) <| rl_nil <| run_ret Try.func5 (res1 Try.results5 rfl) ?_
    exact ⟨rfl, (hH4.own).below⟩
   ·have hmk : (X.mvM s m).mrk m (X.pr m + X.mv s m) = 0 := mrk_ok (X := X.mvM s m) hmX ⟨by omega, by omega⟩
    refine run_skip <| run_seq <| run_region <| rl_v rfl rfl rfl (ov_move rfl rfl) <| rl_v rfl rfl rfl (ov_move rfl rfl) <| rl_v rfl rfl rfl (ov_move rfl rfl) ?_
    refine rl_call callable_22 rfl rfl rfl rfl rfl rfl (mark_any hb w.heap.size (X.mvM s m) m (X.pr m + X.mv s m) [] _ w w33 hH3' hHG) (fun e37 w38 hp39 => ?_)
    obtain ⟨v1, c1, rfl, hr1, hl1, hH4⟩ := hp39
    refine ⟨_, rfl, ?_⟩
    rw [mvM_mark hm.1 hmk] at hH4
    have hH5 := hH4.shed
    refine rl_v rfl rfl rfl (ov_move rfl rfl) <| rl_v rfl rfl rfl (ov_extract rfl rfl (by rfl)) ?_
    refine rl_v rfl rfl rfl (ov_extract rfl rfl (by rfl)) ?_
    refine rl_v rfl rfl rfl (ov_assign rfl rfl) <| rl_v rfl rfl rfl (ov_assign rfl rfl) <| rl_nil <| run_seq <| run_region <| rl_v rfl rfl rfl (ov_move rfl rfl) <| rl_v rfl rfl rfl (ov_neq rfl rfl rfl) <| rl_nil ?_
    first | refine run_cond_dec rfl (fun bad => ?_) (fun bad => ?_) | refine run_cond rfl (fun bad => ?_) (fun bad => ?_)
    ·exfalso; exact bad hmk
    ·refine run_skip <| run_inBlock <| run_region <| rl_v rfl rfl rfl (ov_move rfl rfl) <| rl_v rfl rfl rfl (ov_add rfl rfl rfl (by omega)) ?_
     refine rl_v rfl rfl rfl (ov_assign rfl rfl) <| rl_nil ?_
     refine Run.use (ih32 (m + 1) _ ?_ ?_) (And.intro (by exact slot_int rfl (by first | omega)) (And.intro rfl (And.intro rfl (And.intro rfl (And.intro rfl (And.intro rfl trivial))))))
     ·first | omega | (dsimp only; omega)
     ·exact ⟨by omega, fun k k0 k1 => (by rcases Int.lt_or_eq_of_le (show k ≤ m by omega) with h | rfl; exact hpm k k0 h; omega), hH5⟩
  ·obtain rfl : mon = m := by omega
   refine run_exit rfl <| run_seq <| run_seq <| run_region <| rl_v rfl rfl rfl (ov_assign rfl rfl) <| rl_nil <| run_block <| Run.keep [7, 8, 11, 16] (F' := [(7, _), (8, _), (11, _), (16, _)]) rfl <| run_loop1 (fun (i : Int) => [(16, .int .i64 i)]) [7, 8, 11] (fun (i : Int) (w40 : World) => (1 ≤ i ∧ i ≤ mem + 1) ∧ HAt w.heap.size w w40 hb (X.mvM s mon) [] (c :: some (lch b9 34 (ghL X G)) :: RR)) (fun (i : Int) => (mem + 1 - i).toNat) (1) ?_ (And.intro (by exact slot_int rfl (by first | omega)) (And.intro rfl (And.intro rfl (And.intro rfl trivial)))) ?_
   ·exact ⟨by omega, hH3⟩
   intro i w40 hIw40 ih41
   obtain ⟨hi, hH6⟩ := hIw40
   show Run _ _ _ _ [(16, _), (7, _), (8, _), (11, _)] _ _
   refine run_seq <| run_seq <| run_region <| rl_v rfl rfl rfl (ov_move rfl rfl) <| rl_v rfl rfl rfl (ov_fieldS rfl Try.underlying25 rfl (fo := 0) rfl (by kernel_rfl) rfl) ?_
   refine rl_v rfl rfl rfl (ov_load rfl Try.underlying3 rfl rfl (by exact ((hH6.own).sub hsC).cellL 0 rfl (off := 0) rfl)) ?_
   refine rl_v rfl rfl rfl (ov_leq rfl rfl rfl) <| rl_nil ?_
   first | refine run_cond_dec rfl (fun h3 => ?_) (fun h3 => ?_) | refine run_cond rfl (fun h3 => ?_) (fun h3 => ?_)
   ·have hXm : X.mem = mem.toNat := congrArg Prod.fst hsm.dim
    have hii : (X.mvM s mon).is i := ⟨by omega, by show i ≤ (X.mem : Int); omega⟩
    refine run_skip <| run_seq <| run_block <| run_seq <| run_region <| rl_v rfl rfl rfl (ov_move rfl rfl) <| rl_v rfl rfl rfl (ov_move rfl rfl) ?_
    refine rl_call callable_31 rfl rfl rfl rfl rfl rfl (account_in hb w.heap.size (X.mvM s mon) [] _ w w40 hH6 hHG i hii) (fun e42 w43 hp44 => ?_)
    obtain ⟨va, ca, rfl, hra, hH7⟩ := hp44
    refine ⟨_, rfl, ?_⟩
    obtain ⟨aa, pa9, rfl⟩ := hra.val
    obtain ⟨K2, N2, hO5, hK2, hP2⟩ := hH7.open
    refine rl_v rfl rfl rfl (ov_move rfl rfl) <| rl_v rfl rfl rfl (ov_extract rfl rfl (by rfl)) ?_
    refine rl_v rfl rfl rfl (ov_extract rfl rfl (by rfl)) ?_
    refine rl_ow rfl (ow_alloc _ rfl rfl rfl zero_64 rfl hO5) ?_
    rintro _ w45 ⟨b17, rfl, hO46, hs47⟩
    refine rl_ow rfl (ow_storeW rfl rfl (by kernel_rfl) hO46 0 rfl rfl (by rfl) rfl (by rfl)) ?_
    rintro _ w48 ⟨rfl, hO49, hs50⟩
    have hH8 := HAt.puts [some (lch b17 64 [iv ((X.mvM s mon).acct i).cash, iv ((X.mvM s mon).acct i).fund, .slice aa (X.mvM s mon).mn pa9, .bool ((X.mvM s mon).acct i).out])] hO49 hK2 hP2
    refine rl_v rfl rfl rfl (ov_assign rfl rfl) <| rl_nil <| run_seq <| run_seq <| run_region <| rl_v rfl rfl rfl (ov_move rfl rfl) <| rl_v rfl rfl rfl (ov_neq rfl rfl rfl) <| rl_nil ?_
    first | refine run_cond_dec rfl (fun bad => ?_) (fun bad => ?_) | refine run_cond rfl (fun bad => ?_) (fun bad => ?_)
    ·exfalso; exact bad rfl
    ·have hkm0 : ¬ memb (X.cls X.mem) i 0 := fun ⟨q, q0, q1, _⟩ => by omega
     refine run_skip <| run_seq <| run_region <| rl_v rfl rfl rfl (ov_assign rfl rfl) <| rl_nil <| run_seq <| run_seq <| run_region <| rl_v rfl rfl rfl (ov_assign rfl rfl) <| rl_nil <| run_block <| Run.keep [7, 8, 11, 16, 17, 19, 20] (F' := [(7, _), (8, _), (11, _), (16, _), (17, _), (19, _), (20, _)]) rfl <| run_loop2 (fun (k : Int) (cc : Bool) => [(20, .int .i64 k), (19, .bool cc)]) [7, 8, 11, 16, 17] (fun (k : Int) (cc : Bool) (w51 : World) => (0 ≤ k ∧ k ≤ (X.cls X.mem).length) ∧ cc = decide (memb (X.cls X.mem) i k) ∧ HAt w.heap.size w w51 hb (X.mvM s mon) [] ([some (lch b17 64 [iv ((X.mvM s mon).acct i).cash, iv ((X.mvM s mon).acct i).fund, .slice aa (X.mvM s mon).mn pa9, .bool ((X.mvM s mon).acct i).out])] ++ (ca :: c :: some (lch b9 34 (ghL X G)) :: RR))) (fun (k : Int) (cc : Bool) => (((X.cls X.mem).length : Int) - k).toNat) (0) (false) ?_ (And.intro (by exact slot_int rfl (by first | omega)) (And.intro (by rfl) (And.intro rfl (And.intro rfl (And.intro rfl (And.intro rfl (And.intro rfl trivial))))))) ?_
     ·exact ⟨by omega, (decide_eq_false hkm0).symm, hH8⟩
     intro k cc w51 hIw51 ih52
     obtain ⟨hkk, hcc, hH9⟩ := hIw51
     show Run _ _ _ _ [(20, _), (19, _), (7, _), (8, _), (11, _), (16, _), (17, _)] _ _
     subst hcc
     refine run_seq <| run_seq <| run_region <| rl_v rfl rfl rfl (ov_move rfl rfl) <| rl_v rfl rfl rfl (ov_move rfl rfl) <| rl_v rfl rfl rfl (ov_len rfl Try.underlying51 rfl) <| rl_v rfl rfl rfl (ov_lss rfl rfl rfl) <| rl_nil ?_
     first | refine run_cond_dec rfl (fun h4 => ?_) (fun h4 => ?_) | refine run_cond rfl (fun h4 => ?_) (fun h4 => ?_)
     ·obtain ⟨qb, qo, eq, rq⟩ := (srcRow hr (k := 2) rfl).at (hH9.own) (by omega)
      refine run_skip <| run_seq <| run_block <| run_region_join 19 (.bool (decide (memb (X.cls X.mem) i (k + 1)))) [7, 8, 11, 16, 17, 20] (fun hk53 => ?_) ?_
      ·refine rl_v rfl rfl rfl (ov_move rfl rfl) <| rl_v rfl rfl rfl (ov_move rfl rfl) ?_
       first | refine rl_split_dec 100 rfl (fun j1 => ?_) (fun j1 => ?_) | refine rl_split 100 rfl (fun j1 => ?_) (fun j1 => ?_)
       ·refine rl_gskip rfl rfl rfl rfl rfl rfl <| rl_gskip rfl rfl rfl rfl rfl rfl <| rl_gskip rfl rfl rfl rfl rfl rfl <| rl_gskip rfl rfl rfl rfl rfl rfl <| rl_gskip rfl rfl rfl rfl rfl rfl <| rl_gskip rfl rfl rfl rfl rfl rfl <| rl_v rfl rfl rfl (ov_pick_t rfl rfl rfl) <| rl_v rfl rfl rfl (ov_assign rfl rfl) ?_
        refine rl_nil (hk53 _ (jbt rfl (by exact memb_up ‹_›)) (And.intro rfl (And.intro rfl (And.intro rfl (And.intro rfl (And.intro rfl (And.intro rfl trivial)))))))
       ·refine rl_gv rfl rfl rfl rfl rfl (ov_move rfl rfl) <| rl_gv rfl rfl rfl rfl rfl (ov_move rfl rfl) <| rl_gv rfl rfl rfl rfl rfl (ov_index1 rfl Try.underlying51 (by kernel_rfl) rfl rfl ⟨by omega, by omega⟩ (by exact (id eq))) ?_
        refine rl_gv rfl rfl rfl rfl rfl (ov_load rfl Try.underlying3 rfl rfl (by exact rq (hH9.own) k hkk.1 h4)) ?_
        refine rl_gv rfl rfl rfl rfl rfl (ov_move rfl rfl) <| rl_gv rfl rfl rfl rfl rfl (ov_eql rfl rfl rfl) <| rl_v rfl rfl rfl (ov_pick_f rfl rfl rfl) <| rl_v rfl rfl rfl (ov_assign rfl rfl) ?_
        refine rl_nil (hk53 _ (jbd rfl (by exact memb_at hkk.1 ‹_›)) (And.intro rfl (And.intro rfl (And.intro rfl (And.intro rfl (And.intro rfl (And.intro rfl trivial)))))))
      ·show Run _ _ _ _ [(19, _), (7, _), (8, _), (11, _), (16, _), (17, _), (20, _)] _ _
       refine run_inBlock <| run_region <| rl_v rfl rfl rfl (ov_move rfl rfl) <| rl_v rfl rfl rfl (ov_add rfl rfl rfl (by omega)) ?_
       refine rl_v rfl rfl rfl (ov_assign rfl rfl) <| rl_nil ?_
       refine Run.use (ih52 (k + 1) (decide (memb (X.cls X.mem) i (k + 1))) _ ?_ ?_) (And.intro (by exact slot_int rfl (by first | omega)) (And.intro (by rfl) (And.intro rfl (And.intro rfl (And.intro rfl (And.intro rfl (And.intro rfl trivial)))))))
       ·first | omega | (dsimp only; omega)
       ·exact ⟨by omega, rfl, hH9⟩
     ·have hke : k = (X.cls X.mem).length := by omega
      refine run_exit rfl <| run_seq <| run_region <| rl_v rfl rfl rfl (ov_move rfl rfl) <| rl_v rfl rfl rfl (ov_not rfl rfl) <| rl_v rfl rfl rfl (ov_move rfl rfl) ?_
      first | refine rl_split_dec 110 rfl (fun j1 => ?_) (fun j1 => ?_) | refine rl_split 110 rfl (fun j1 => ?_) (fun j1 => ?_)
      ·refine rl_gv rfl rfl rfl rfl rfl (ov_fieldS rfl Try.underlying64 rfl (fo := 0) rfl (by kernel_rfl) rfl) ?_
       refine rl_gv rfl rfl rfl rfl rfl (ov_load rfl Try.underlying2 rfl rfl (by exact (hH9.own).cellL 0 rfl rfl)) ?_
       refine rl_gv rfl rfl rfl rfl rfl (ov_lss rfl rfl rfl) <| rl_v rfl rfl rfl (ov_pick_t rfl rfl rfl) <| rl_nil ?_
       have hnn : 0 ≤ ((X.mvM s mon).acct i).cash := by
        have h := holds_cash hX hXr hs2.1 hs2.2 (j := i - 1) (by omega) (by omega) (fun hu => ndt j1 (by
         obtain ⟨jn, hjn⟩ := Int.eq_ofNat_of_zero_le (show 0 ≤ i - 1 by omega)
         rw [hjn] at hu
         obtain ⟨q, q0, q1, e⟩ := glH_has (cls_has (X := X) (k := X.mem) (j := jn) (by omega) hu)
         exact ⟨q, q0, by omega, by omega⟩))
        rw [hXmo] at h
        exact h
       first | refine run_cond_dec rfl (fun bad => ?_) (fun bad => ?_) | refine run_cond rfl (fun bad => ?_) (fun bad => ?_)
       ·exfalso; omega
       ·refine run_skip <| run_inBlock <| run_region <| rl_v rfl rfl rfl (ov_move rfl rfl) <| rl_v rfl rfl rfl (ov_add rfl rfl rfl (by omega)) ?_
        refine rl_v rfl rfl rfl (ov_assign rfl rfl) <| rl_nil ?_
        refine Run.use (ih41 (i + 1) _ ?_ ?_) (And.intro (by exact slot_int rfl (by first | omega)) (And.intro rfl (And.intro rfl (And.intro rfl trivial))))
        ·first | omega | (dsimp only; omega)
        ·exact ⟨by omega, hH9.shed.shed⟩
      ·refine rl_gskip rfl rfl rfl rfl rfl rfl <| rl_gskip rfl rfl rfl rfl rfl rfl <| rl_gskip rfl rfl rfl rfl rfl rfl <| rl_v rfl rfl rfl (ov_pick_f rfl rfl rfl) <| rl_nil <| run_cond_f rfl <| run_skip <| run_inBlock <| run_region <| rl_v rfl rfl rfl (ov_move rfl rfl) <| rl_v rfl rfl rfl (ov_add rfl rfl rfl (by omega)) ?_
       refine rl_v rfl rfl rfl (ov_assign rfl rfl) <| rl_nil ?_
       refine Run.use (ih41 (i + 1) _ ?_ ?_) (And.intro (by exact slot_int rfl (by first | omega)) (And.intro rfl (And.intro rfl (And.intro rfl trivial))))
       ·first | omega | (dsimp only; omega)
       ·exact ⟨by omega, hH9.shed.shed⟩
   ·refine run_exit rfl <| run_seq <| run_region ?_
    refine rl_call callable_21 rfl rfl rfl rfl rfl rfl (hH6.call1 (Q := fun e => e = _) (fun H hO _ => awake_any w.heap.size H w w40 hO)) (fun e56 w57 hp58 => ?_)
    obtain ⟨rfl, hH7⟩ := hp58
    refine ⟨_, rfl, ?_⟩
    refine rl_v rfl rfl rfl (ov_assign rfl rfl) <| rl_nil <| run_ret Try.func5 (res1 Try.results5 rfl) ?_
    exact ⟨rfl, (hH7.own).below⟩
end Go.Proofs.Ytfbbagnpdfafjaa
