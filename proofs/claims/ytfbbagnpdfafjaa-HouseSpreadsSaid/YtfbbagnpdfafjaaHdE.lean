import Derived.Test.YtfbbagnpdfafjaaHcY
import Derived.Test.YtfbbagnpdfafjaaRowOpenH
set_option maxRecDepth 100000
namespace Go.Proofs.Ytfbbagnpdfafjaa
open Go.RowKit Go.Proofs
theorem W2H.pair {B : Nat} {w0 w : World} {ha hb : Nat} {Z X : HM} {N T R : List (Option Blk)} {K : HK} (h : HAt B w0 w ha Z [] (T ++ (houB hb (X.r K) :: K.blk :: (N ++ R)))) (hK : HOk X K N) : W2H B w0 w ha Z hb X [] (T ++ R) := by
 obtain ⟨L, M, hO, hL, _⟩ := h
 refine ⟨L, K, M ++ N, hO.perm (.cons _ (.cons _ ?_)), hL.more (List.sublist_append_left _ _), hK.more (List.sublist_append_right _ _), List.nil_sublist _⟩
 rw [List.append_assoc]
 exact ((List.Perm.append_left M (List.perm_append_comm_assoc T [_, _] (N ++ R))).trans (List.perm_append_comm_assoc M [_, _] _)).trans (.cons _ (.cons _ (List.Perm.append_left M (List.perm_append_comm_assoc T N R))))
theorem W2H.sheds {B : Nat} {w0 w : World} {ha hb : Nat} {Z X : HM} {Pl R R' : List (Option Blk)} (h : W2H B w0 w ha Z hb X Pl R) (hs : R'.Sublist R) : W2H B w0 w ha Z hb X Pl R' := by
 obtain ⟨K, L, N, hO, hK, hL, hP⟩ := h
 exact ⟨K, L, N, hO.sub (.cons_cons _ (.cons_cons _ (.cons_cons _ (.cons_cons _ (List.Sublist.append_left hs N))))), hK, hL, hP⟩
theorem W2H.put {B : Nat} {w0 w : World} {ha hb : Nat} {Z X : HM} {N Pl R : List (Option Blk)} {K L : HK} {x : Option Blk} (hO : Own B w0 w (x :: houB ha (Z.r K) :: K.blk :: houB hb (X.r L) :: L.blk :: (N ++ R))) (hK : HOk Z K N) (hL : HOk X L N) (hP : Pl.Sublist N) : W2H B w0 w ha Z hb X Pl (x :: R) :=
 ⟨K, L, N, hO.perm ((List.perm_append_comm_assoc [x] [_, _, _, _] (N ++ R)).trans (.cons _ (.cons _ (.cons _ (.cons _ (List.perm_append_comm_assoc [x] N R)))))), hK, hL, hP⟩
theorem W2H.pull {B : Nat} {w0 w : World} {ha hb : Nat} {Z X : HM} {Pl R : List (Option Blk)} {x : Option Blk} (h : W2H B w0 w ha Z hb X Pl (x :: R)) : ∃ K L N, Own B w0 w (x :: houB ha (Z.r K) :: K.blk :: houB hb (X.r L) :: L.blk :: (N ++ R)) ∧ HOk Z K N ∧ HOk X L N ∧ Pl.Sublist N := by
 obtain ⟨K, L, N, hO, hK, hL, hP⟩ := h
 exact ⟨K, L, N, hO.perm ((List.perm_append_comm_assoc [x] [_, _, _, _] (N ++ R)).trans (.cons _ (.cons _ (.cons _ (.cons _ (List.perm_append_comm_assoc [x] N R)))))).symm, hK, hL, hP⟩
theorem W2H.call {f : FuncId} {args : Array Value} {B : Nat} {w0 w : World} {ha hb : Nat} {Z Z2 X : HM} {Pl R : List (Option Blk)} {Q : Ending → Prop} (h : W2H B w0 w ha Z hb X Pl R)
  (hc : ∀ N S, HAt B w0 w ha Z N S → Calls Try.prog f args w fun e w' => Q e ∧ HAt B w0 w' ha Z2 N S) :
  Calls Try.prog f args w fun e w' => Q e ∧ W2H B w0 w' ha Z2 hb X Pl R := by
 obtain ⟨L, N, hA, hL, hP⟩ := h.left
 exact (hc _ _ hA).mono fun e w' ⟨hq, hA2⟩ => ⟨hq, W2H.of (T := []) hA2 hL hP⟩
theorem W2H.call' {f : FuncId} {args : Array Value} {B : Nat} {w0 w : World} {ha hb : Nat} {Z X X2 : HM} {Pl R : List (Option Blk)} {Q : Ending → Prop} (h : W2H B w0 w ha Z hb X Pl R)
  (hc : ∀ N S, HAt B w0 w hb X N S → Calls Try.prog f args w fun e w' => Q e ∧ HAt B w0 w' hb X2 N S) :
  Calls Try.prog f args w fun e w' => Q e ∧ W2H B w0 w' ha Z hb X2 Pl R :=
 (h.swap.call hc).mono fun e w' ⟨hq, hA2⟩ => ⟨hq, hA2.swap⟩
theorem need_rng {X : HM} (hG : HG X) {i : Int} (hi : X.is i) : 0 ≤ X.need (X.acct i) ∧ X.need (X.acct i) ≤ 100000000000000 :=
 marF_rng (r := ⟨X.mo, X.pr, none, X.k, 0, X.rate, 0, 0, none, 0, 0, none, 0, 0⟩) (mv := X.mv) ⟨hG.rate, Nat.le_trans hG.k (by decide), hG.mv⟩ ((hG.pos (i - 1) (by have := hi.1; omega) (by have := hi.2; omega)).mono (by decide)) hG.pbd
set_option maxHeartbeats 4000000 in
theorem spreads9_any (mm mn : Int) (pa ma la : Option Addr) (pn pc mk mc ln lc : Nat) (rt cp : Int) (P0 : Int → Int) (L0 : Int → Nat) (F0 : Int → Int → Int) (S : HActs) (more : HAct) (w : World) (hP : IAt w.heap.size w pa pn (fun i => iv (P0 i))) (hT : ITab w.heap.size w ma mk L0 (fun r c => iv (F0 r c))) (hS : SAt w.heap.size w la 7 ln S.l) :
  Calls Try.prog 3 #[.agg (cfL mm mn pa pn pc ma mk mc rt cp).toArray, .slice la ln lc, .agg more.l.toArray] w fun e w' => e = .returned (.bool true) ∧ Below w.heap.size w w' := by
 refine calls_of_run (F := [(0, _), (1, _), (2, _)]) Try.func3 rfl Try.ntmps3 rfl rfl <| run_seq <| run_region <| rl_ow rfl (ow_box _ rfl rfl rfl rfl rfl (Own.init w)) ?_
 rintro _ w1 ⟨b3, rfl, hO2, hs3⟩
 refine rl_ow rfl (ow_box _ rfl rfl rfl rfl rfl hO2) ?_
 rintro _ w4 ⟨b5, rfl, hO5, hs6⟩
 refine rl_v rfl rfl rfl (ov_assign rfl rfl) <| rl_nil <| run_seq <| run_region <| rl_v rfl rfl rfl (ov_loadW rfl Try.underlying25 rfl (by kernel_rfl) rfl hO5 1 rfl) ?_
 refine rl_call callable_15 rfl rfl rfl rfl rfl rfl (tame_any mm mn pa ma pn pc mk mc rt cp P0 L0 F0 w.heap.size _ w w4 hO5 hP hT) (fun e7 w8 hp9 => ?_)
 obtain ⟨mem, mon, pa2, ma2, pc2, k2, mc2, P, F, rate, cap, N, rfl, hC, hO2⟩ := hp9
 refine ⟨_, rfl, ?_⟩
 have hmem := hC.hmem
 have hmon := hC.hmon
 have hk := hC.hk
 have hrate := hC.hrate
 have hcap := hC.hcap
 refine rl_ow rfl (ow_alloc _ rfl rfl rfl zero_25 rfl hO2) ?_
 rintro _ w10 ⟨b7, rfl, hO11, hs12⟩
 refine rl_ow rfl (ow_storeW rfl rfl (by kernel_rfl) hO11 0 rfl rfl (by rfl) rfl (by rfl)) ?_
 rintro _ w13 ⟨rfl, hO14, hs15⟩
 refine rl_nil <| run_seq <| run_region <| rl_v rfl rfl rfl (ov_loadW rfl Try.underlying25 rfl (by kernel_rfl) rfl hO14 0 rfl) ?_
 refine rl_v rfl rfl rfl (ov_move rfl rfl) ?_
 refine rl_call callable_16 rfl rfl rfl rfl rfl rfl (run_any mem mon pa2 ma2 la pc2 k2 mc2 ln lc P F rate cap 25 S N w.heap.size _ w w13 hO14 (.cons _ (List.sublist_append_left _ _)) hC hS (by decide)) (fun e16 w17 hp18 => ?_)
 obtain ⟨hb, X, T, G, rfl, ⟨hX, hsm, hlow⟩, hI, hH0⟩ := hp18
 refine ⟨_, rfl, ?_⟩
 have hXG := hX.gg (by omega)
 have hG := hXG.g
 have hXmo : X.mo = mon := congrArg Prod.snd hsm.dim
 have hXm : X.mem = mem.toNat := congrArg Prod.fst hsm.dim
 have hmn := X.mn_eq hXG.mo
 obtain ⟨RR, hRR⟩ : ∃ RR, RR = T ++ (some (lch b7 25 (cfL mem mon pa2 mon.toNat pc2 ma2 k2 mc2 rate cap)) :: (N ++ [some (lch b5 28 more.l), some (lch b3 25 (cfL mm mn pa pn pc ma mk mc rt cp))])) := ⟨_, rfl⟩
 obtain ⟨TN, hTN⟩ : ∃ TN, TN = T ++ N := ⟨_, rfl⟩
 have hsI : TN.Sublist RR := by rw [hRR, hTN]; exact List.Sublist.append_left (.cons _ (List.sublist_append_left _ _)) T
 have hsN : N.Sublist RR := by rw [hRR]; exact (List.Sublist.cons _ (List.sublist_append_left _ _)).trans (List.sublist_append_right T _)
 have hs75 : [some (lch b7 25 (cfL mem mon pa2 mon.toNat pc2 ma2 k2 mc2 rate cap)), some (lch b5 28 more.l)].Sublist RR := by
  rw [hRR]
  exact (List.Sublist.cons_cons _ ((List.Sublist.cons_cons _ (List.nil_sublist _)).trans (List.sublist_append_right N _))).trans (List.sublist_append_right T _)
 replace hH0 : HAt w.heap.size w w17 hb X [] RR := by rw [hRR]; exact hH0
 replace hI : GIn TN X G := by rw [hTN]; exact hI
 clear hRR hTN
 obtain ⟨K1, N1, hO3, hK1, hP1⟩ := hH0.open
 refine rl_v rfl rfl rfl (ov_move rfl rfl) <| rl_v rfl rfl rfl (ov_extract rfl rfl (by rfl)) ?_
 refine rl_v rfl rfl rfl (ov_extract rfl rfl (by rfl)) ?_
 refine rl_ow rfl (ow_alloc _ rfl rfl rfl zero_34 rfl hO3) ?_
 rintro _ w19 ⟨b9, rfl, hO20, hs21⟩
 refine rl_v rfl rfl rfl (ov_assign rfl rfl) <| rl_ow rfl (ow_storeW rfl rfl (by kernel_rfl) hO20 0 rfl rfl (by rfl) rfl (by rfl)) ?_
 rintro _ w22 ⟨rfl, hO23, hs24⟩
 have hH1 : HAt w.heap.size w w22 hb X [] (some (lch b9 34 (ghL X G)) :: RR) := HAt.puts [some (lch b9 34 (ghL X G))] hO23 hK1 hP1
 obtain ⟨K2, N2, hO4, hK2, hP2⟩ := hH1.open
 refine rl_nil <| run_seq <| run_region <| rl_v rfl rfl rfl (ov_loadW rfl Try.underlying25 rfl (by kernel_rfl) rfl (hH1.own.sub (.cons _ hs75)) 0 rfl) ?_
 refine rl_call callable_18 rfl rfl rfl rfl rfl rfl (give_any mem mon pa2 ma2 mon.toNat pc2 k2 mc2 rate cap P (fun _ => mon.toNat) F w.heap.size _ w w22 hO4 (CfRd.of_src hC.hpc hC.ps hC.ms (.cons _ (.cons _ ((List.Sublist.cons _ hsN).trans (List.sublist_append_right _ _)))))) (fun e25 w26 hp27 => ?_)
 obtain ⟨pa3, ma3, pc3, mc3, N3, rfl, hN3, hO5⟩ := hp27
 refine ⟨_, rfl, ?_⟩
 refine rl_call callable_17 rfl rfl rfl rfl rfl rfl (newGood mem mon pa3 ma3 (min mon.toNat 20) pc3 (min k2 66) mc3 rate cap P (fun _ => min mon.toNat 20) F w.heap.size _ w w26 hO5 (hN3.2.1.sub (List.sublist_append_left _ _)) (hN3.2.2.sub (List.sublist_append_left _ _)) (by omega) (by omega) hrate (by omega) (by omega) (by omega) (fun _ _ _ => by omega) (fun i i0 i1 => by have := hC.hP i i0 (by omega); omega) (fun i i0 i1 m m0 m1 => by have := hC.hF i i0 (by omega) m m0 (by omega); omega)) (fun e28 w29 hp30 => ?_)
 obtain ⟨ha, rfl, hHz⟩ := hp30
 refine ⟨_, rfl, ?_⟩
 have hk66 : min k2 66 = k2 := by omega
 rw [hk66] at hHz
 obtain ⟨Z0, hZ0⟩ : ∃ Z0, Z0 = HM.new mem mon k2 P F rate cap := ⟨_, rfl⟩
 rw [← hZ0] at hHz hsm
 have hZB : HB 0 Z0 := by rw [hZ0]; exact HB.new (by omega) (by omega) (by omega) (fun m m0 m1 => by have := hC.hP m m0 m1; omega) (fun i i0 i1 m m0 m1 => by have := hC.hF i i0 (by omega) m m0 m1; omega) hrate (by omega)
 have hZa : ∀ j : Int, Z0.acct j = HA.z := fun j => by rw [hZ0]; rfl
 have hW0 : W2H w.heap.size w w29 ha Z0 hb X [] (some (lch b9 34 (ghL X G)) :: RR) := (W2H.pair hHz hK2).sheds (List.sublist_append_right _ _)
 clear hHz hO5 hN3 hK2
 refine rl_v rfl rfl rfl (ov_move rfl rfl) <| rl_v rfl rfl rfl (ov_extract rfl rfl (by rfl)) ?_
 refine rl_v rfl rfl rfl (ov_extract rfl rfl (by rfl)) ?_
 refine rl_v rfl rfl rfl (ov_assign rfl rfl) <| rl_v rfl rfl rfl (ov_assign rfl rfl) <| rl_nil <| run_seq <| run_seq <| run_region <| rl_v rfl rfl rfl (ov_move rfl rfl) <| rl_v rfl rfl rfl (ov_ptrnil rfl Try.underlying30 rfl) <| rl_v rfl rfl rfl (ov_move rfl rfl) <| rl_gv rfl rfl rfl rfl rfl (ov_move rfl rfl) <| rl_gv rfl rfl rfl rfl rfl (ov_neq rfl rfl rfl) <| rl_v rfl rfl rfl (ov_pick_f rfl rfl rfl) <| rl_v rfl rfl rfl (ov_move rfl rfl) ?_
 first | refine rl_noD 53 rfl (fun h => h rfl) ?_ | refine rl_no 53 rfl (fun h => h rfl) ?_
 refine rl_gv rfl rfl rfl rfl rfl (ov_move rfl rfl) <| rl_gv rfl rfl rfl rfl rfl (ov_ptrnil rfl Try.underlying30 rfl) <| rl_v rfl rfl rfl (ov_pick_f rfl rfl rfl) <| rl_nil <| run_cond_f rfl ?_
 obtain ⟨K3, L3, N3, hO6, hK3, hL3, hP3⟩ := hW0
 obtain ⟨m, hm⟩ : ∃ m, m = IntKind.u64.wrap more.m % mon := ⟨_, rfl⟩
 have hmr : 0 ≤ IntKind.u64.wrap more.m % mon ∧ IntKind.u64.wrap more.m % mon < mon := ⟨Int.emod_nonneg _ (by omega), Int.emod_lt_of_pos _ (by omega)⟩
 have hmX : 0 ≤ m ∧ m < X.mo := by omega
 obtain ⟨q, hq⟩ : ∃ q, q = 1 + sml more.q 30 := ⟨_, rfl⟩
 have hs1 := sml_rng more.q (show (0 : Int) ≤ 30 by decide)
 have hqr : 1 ≤ q ∧ q ≤ 31 := by omega
 have hsB : [some (lch b7 25 (cfL mem mon pa2 mon.toNat pc2 ma2 k2 mc2 rate cap)), some (lch b5 28 more.l)].Sublist (houB ha (Z0.r K3) :: K3.blk :: houB hb (X.r L3) :: L3.blk :: (N3 ++ (some (lch b9 34 (ghL X G)) :: RR))) := .cons _ (.cons _ (.cons _ (.cons _ ((List.Sublist.cons _ hs75).trans (List.sublist_append_right _ _)))))
 refine run_skip <| run_seq <| Run.keep [5, 7, 8, 9, 10] (F' := [(5, _), (7, _), (8, _), (9, _), (10, _)]) rfl <| run_join1 (fun (b12 : Nat) => [(12, ptr b12)]) [8, 9, 10] (fun (b12 : Nat) (w31 : World) => Own w.heap.size w w31 (some (lch b12 45 (ctL ⟨1, 2, m, q, 0⟩)) :: houB ha (Z0.r K3) :: K3.blk :: houB hb (X.r L3) :: L3.blk :: (N3 ++ (some (lch b9 34 (ghL X G)) :: RR)))) (fun hk32 => ?_) ?_
 ·refine run_held (fun w' => Own w.heap.size w w' ([some (lch b7 25 (cfL mem mon pa2 mon.toNat pc2 ma2 k2 mc2 rate cap)), some (lch b5 28 more.l)])) mixed ?_
  have hO34 := hO6.drew
  generalize World.drew w29 = w33 at hO34 ⊢
  have hS35 : Own w.heap.size w w33 ([some (lch b7 25 (cfL mem mon pa2 mon.toNat pc2 ma2 k2 mc2 rate cap)), some (lch b5 28 more.l)]) := by first | exact hO34.sub hsB | exact hO34.sub (.cons _ hsB)
  refine rh_v 0 rfl (by kernel_rfl) rfl rfl rfl hS35 (fun _ hS => ov_fieldS rfl Try.underlying28 rfl (fo := 3) rfl (by kernel_rfl) rfl) ?_
  refine rh_v 1 rfl (by kernel_rfl) rfl rfl rfl hS35 (fun _ hS => ov_load rfl Try.underlying3 rfl rfl (by exact (show _ = some (iv more.m) from hS.cellL 1 rfl (off := 3) rfl))) ?_
  refine rh_v 2 rfl (by kernel_rfl) rfl rfl rfl hS35 (fun _ hS => ov_conv rfl Try.underlying3 Try.underlying42 rfl) ?_
  refine rh_v 3 rfl (by kernel_rfl) rfl rfl rfl hS35 (fun _ hS => ov_fieldS rfl Try.underlying25 rfl (fo := 1) rfl (by kernel_rfl) rfl) ?_
  refine rh_v 4 rfl (by kernel_rfl) rfl rfl rfl hS35 (fun _ hS => ov_load rfl Try.underlying3 rfl rfl (by exact (show _ = some (iv mon) from hS.cellL 0 rfl (off := 1) rfl))) ?_
  refine rh_v 5 rfl (by kernel_rfl) rfl rfl rfl hS35 (fun _ hS => nv (ov_conv rfl Try.underlying3 Try.underlying42 rfl) ((wPos (by omega) (by omega)).trans (Int.toNat_of_nonneg (by omega)))) ?_
  refine rh_v 6 rfl (by kernel_rfl) rfl rfl rfl hS35 (fun _ hS => ov_rem rfl rfl rfl (u64_nn _) (by omega)) ?_
  refine rh_v 7 rfl (by kernel_rfl) rfl rfl rfl hS35 (fun _ hS => nv (ov_conv rfl Try.underlying42 Try.underlying3 rfl) ((IntWalk.i64_in _ (by omega)).trans hm.symm)) ?_
  refine rh_v 8 rfl (by kernel_rfl) rfl rfl rfl hS35 (fun _ hS => ov_fieldS rfl Try.underlying28 rfl (fo := 4) rfl (by kernel_rfl) rfl) ?_
  refine rh_v 9 rfl (by kernel_rfl) rfl rfl rfl hS35 (fun _ hS => ov_load rfl Try.underlying2 rfl rfl (by exact (show _ = some (iv more.q) from hS.cellL 1 rfl (off := 4) rfl))) ?_
  refine rh_any2 10 13 (by kernel_rfl) ?_ ?_
  ·refine rc_op rfl rfl (ow_call2 callable_19 rfl rfl rfl rfl rfl (small_any more.q 30 w.heap.size _ w w33 hO34 (by decide)) (by intro e w' hp; obtain ⟨rfl, hOs⟩ := hp; exact ⟨_, rfl⟩)) ?_
   rintro _ w38 ⟨_, v36, he39, rfl, hp37⟩
   obtain ⟨rfl, hOs⟩ := hp37
   injection he39 with he39; subst he39
   have hS40 : Own w.heap.size w w38 ([some (lch b7 25 (cfL mem mon pa2 mon.toNat pc2 ma2 k2 mc2 rate cap)), some (lch b5 28 more.l)]) := by first | exact hOs.sub hsB | exact hOs.sub (.cons _ hsB)
   refine ⟨hS40, ?_⟩
   refine rh_v 11 rfl (by kernel_rfl) rfl rfl rfl hS40 (fun _ hS => nv (ov_add rfl rfl rfl (by omega)) hq.symm) ?_
   refine rh_v 12 rfl (by kernel_rfl) rfl rfl rfl hS40 (fun _ hS => ov_buildL rfl lay_45 rfl (us := [_, _, _, _, _]) rfl) ?_
   refine rh_any1 13 (by kernel_rfl) ?_
   refine rc_op rfl rfl (ow_alloc _ rfl rfl rfl zero_45 rfl hOs) ?_
   rintro _ w41 ⟨b12, rfl, hO42, hs43⟩
   have hS44 : Own w.heap.size w w41 ([some (lch b7 25 (cfL mem mon pa2 mon.toNat pc2 ma2 k2 mc2 rate cap)), some (lch b5 28 more.l)]) := by first | exact hO42.sub hsB | exact hO42.sub (.cons _ hsB)
   refine ⟨hS44, ?_⟩
   refine rh_any1 14 (by kernel_rfl) ?_
   refine rc_op rfl rfl (ow_storeW rfl rfl (by kernel_rfl) hO42 0 rfl rfl (by rfl) rfl (by rfl)) ?_
   rintro _ w45 ⟨rfl, hO46, hs47⟩
   have hS48 : Own w.heap.size w w45 ([some (lch b7 25 (cfL mem mon pa2 mon.toNat pc2 ma2 k2 mc2 rate cap)), some (lch b5 28 more.l)]) := by first | exact hO46.sub hsB | exact hO46.sub (.cons _ hsB)
   refine ⟨hS48, ?_⟩
   refine rh_done (by kernel_rfl) ?_
   refine Run.use (hk32 (b12) _ ?_) (And.intro rfl (And.intro rfl (And.intro rfl (And.intro rfl trivial))))
   exact hO46
  ·refine rc_op rfl rfl (ow_alloc _ rfl rfl rfl zero_45 rfl hO34) ?_
   rintro _ w49 ⟨b12, rfl, hO50, hs51⟩
   have hS52 : Own w.heap.size w w49 ([some (lch b7 25 (cfL mem mon pa2 mon.toNat pc2 ma2 k2 mc2 rate cap)), some (lch b5 28 more.l)]) := by first | exact hO50.sub hsB | exact hO50.sub (.cons _ hsB)
   refine ⟨hS52, ?_⟩
   refine rh_any1 10 (by kernel_rfl) ?_
   refine rc_op rfl rfl (ow_call2 callable_19 rfl rfl rfl rfl rfl (small_any more.q 30 w.heap.size _ w w49 hO50 (by decide)) (by intro e w' hp; obtain ⟨rfl, hOs⟩ := hp; exact ⟨_, rfl⟩)) ?_
   rintro _ w55 ⟨_, v53, he56, rfl, hp54⟩
   obtain ⟨rfl, hOs⟩ := hp54
   injection he56 with he56; subst he56
   have hS57 : Own w.heap.size w w55 ([some (lch b7 25 (cfL mem mon pa2 mon.toNat pc2 ma2 k2 mc2 rate cap)), some (lch b5 28 more.l)]) := by first | exact hOs.sub hsB | exact hOs.sub (.cons _ hsB)
   refine ⟨hS57, ?_⟩
   refine rh_v 11 rfl (by kernel_rfl) rfl rfl rfl hS57 (fun _ hS => nv (ov_add rfl rfl rfl (by omega)) hq.symm) ?_
   refine rh_v 12 rfl (by kernel_rfl) rfl rfl rfl hS57 (fun _ hS => ov_buildL rfl lay_45 rfl (us := [_, _, _, _, _]) rfl) ?_
   refine rh_any1 14 (by kernel_rfl) ?_
   refine rc_op rfl rfl (ow_storeW rfl rfl (by kernel_rfl) hOs 0 rfl rfl (by rfl) rfl (by rfl)) ?_
   rintro _ w58 ⟨rfl, hO59, hs60⟩
   have hS61 : Own w.heap.size w w58 ([some (lch b7 25 (cfL mem mon pa2 mon.toNat pc2 ma2 k2 mc2 rate cap)), some (lch b5 28 more.l)]) := by first | exact hO59.sub hsB | exact hO59.sub (.cons _ hsB)
   refine ⟨hS61, ?_⟩
   refine rh_done (by kernel_rfl) ?_
   refine Run.use (hk32 (b12) _ ?_) (And.intro rfl (And.intro rfl (And.intro rfl (And.intro rfl trivial))))
   exact hO59
 ·intro b12 w31 hJw31
  have hOj := hJw31
  show Run _ _ _ _ [(12, _), (8, _), (9, _), (10, _)] _ _
  have hW1 : W2H w.heap.size w w31 ha Z0 hb X [] (some (lch b12 45 (ctL ⟨1, 2, m, q, 0⟩)) :: some (lch b9 34 (ghL X G)) :: RR) := W2H.put hOj hK3 hL3 hP3
  refine run_seq <| run_region <| rl_v rfl rfl rfl (ov_move rfl rfl) <| rl_v rfl rfl rfl (ov_fieldS rfl Try.underlying45 rfl (fo := 2) rfl (by kernel_rfl) rfl) ?_
  refine rl_v rfl rfl rfl (ov_load rfl Try.underlying3 rfl rfl (by exact (hW1.own).cellL 0 rfl (off := 2) rfl)) ?_
  refine rl_call callable_20 rfl rfl rfl rfl rfl rfl (hW1.call' (Q := fun e => e = _) (fun N S hA => price_in hb w.heap.size X N S w w31 hA hG m hmX)) (fun e62 w63 hp64 => ?_)
  obtain ⟨rfl, hW2⟩ := hp64
  refine ⟨_, rfl, ?_⟩
  obtain ⟨xb, xo, ex, rx⟩ := hI.av.at (by decide) (hW2.own.sub (.cons _ (.cons _ hsI))) (by omega)
  refine rl_v rfl rfl rfl (ov_move rfl rfl) <| rl_v rfl rfl rfl (ov_extract rfl rfl (by rfl)) ?_
  refine rl_v rfl rfl rfl (ov_extract rfl rfl (by rfl)) ?_
  refine rl_v rfl rfl rfl (ov_assign rfl rfl) <| rl_v rfl rfl rfl (ov_assign rfl rfl) <| rl_nil <| run_seq <| run_seq <| run_region <| rl_v rfl rfl rfl (ov_move rfl rfl) <| rl_v rfl rfl rfl (ov_neq rfl rfl rfl) <| rl_v rfl rfl rfl (ov_move rfl rfl) ?_
  first | refine rl_noD 79 rfl (fun h => h rfl) ?_ | refine rl_no 79 rfl (fun h => h rfl) ?_
  refine rl_gv rfl rfl rfl rfl rfl (ov_fieldS rfl Try.underlying34 rfl (fo := 7) rfl (by kernel_rfl) rfl) ?_
  refine rl_gv rfl rfl rfl rfl rfl (ov_load rfl Try.underlying31 rfl rfl (by exact (hW2.own).cellL 1 rfl (off := 7) rfl)) ?_
  refine rl_gv rfl rfl rfl rfl rfl (ov_index rfl Try.underlying31 (by kernel_rfl) (s := 4) rfl rfl ⟨by omega, by omega⟩ (by exact (id ex))) ?_
  refine rl_gv rfl rfl rfl rfl rfl (ov_fieldS rfl Try.underlying49 rfl (fo := 3) rfl (by kernel_rfl) rfl) ?_
  refine rl_gv rfl rfl rfl rfl rfl (ov_load rfl Try.underlying4 rfl rfl (by exact (show _ = some (.bool (X.acct 1).out) from rx ((hW2.own).sub (.cons _ (.cons _ hsI))) 0 (by decide) (by omega) 3 (by decide)))) ?_
  refine rl_v rfl rfl rfl (ov_pick_f rfl rfl rfl) <| rl_v rfl rfl rfl (ov_move rfl rfl) ?_
  first | refine rl_split_dec 86 rfl (fun o1 => ?_) (fun o1 => ?_) | refine rl_split 86 rfl (fun o1 => ?_) (fun o1 => ?_)
  ·refine rl_gskip rfl rfl rfl rfl rfl rfl <| rl_gskip rfl rfl rfl rfl rfl rfl <| rl_gskip rfl rfl rfl rfl rfl rfl <| rl_gskip rfl rfl rfl rfl rfl rfl <| rl_gskip rfl rfl rfl rfl rfl rfl <| rl_v rfl rfl rfl (ov_pick_t rfl rfl rfl) <| rl_nil <| run_cond_t rfl <| run_seq <| run_region <| rl_v rfl rfl rfl (ov_move rfl rfl) <| rl_v rfl rfl rfl (ov_eql rfl rfl rfl) <| rl_v rfl rfl rfl (ov_move rfl rfl) ?_
   first | refine rl_yesD 95 rfl (rfl) ?_ | refine rl_yes 95 rfl (rfl) ?_
   refine rl_gcall callable_21 rfl rfl rfl rfl rfl rfl rfl rfl (hW2.call (Q := fun e => e = _) (fun N S hA => hA.call1 (Q := fun e => e = _) (fun H hO _ => awake_any w.heap.size H w w63 hO))) (fun e66 w67 hp68 => ?_)
   obtain ⟨rfl, hW3⟩ := hp68
   refine ⟨_, rfl, ?_⟩
   refine rl_v rfl rfl rfl (ov_pick_t rfl rfl rfl) <| rl_v rfl rfl rfl (ov_assign rfl rfl) <| rl_nil <| run_ret Try.func3 (res1 Try.results3 rfl) ?_
   exact ⟨rfl, (hW3.own).below⟩
  ·refine rl_gv rfl rfl rfl rfl rfl (ov_fieldS rfl Try.underlying34 rfl (fo := 7) rfl (by kernel_rfl) rfl) ?_
   refine rl_gv rfl rfl rfl rfl rfl (ov_load rfl Try.underlying31 rfl rfl (by exact (hW2.own).cellL 1 rfl (off := 7) rfl)) ?_
   refine rl_gv rfl rfl rfl rfl rfl (ov_index rfl Try.underlying31 (by kernel_rfl) (s := 4) rfl rfl ⟨by omega, by omega⟩ (by exact (id ex))) ?_
   refine rl_gv rfl rfl rfl rfl rfl (ov_fieldS rfl Try.underlying49 rfl (fo := 3) rfl (by kernel_rfl) rfl) ?_
   refine rl_gv rfl rfl rfl rfl rfl (ov_load rfl Try.underlying4 rfl rfl (by exact (show _ = some (.bool (X.acct 2).out) from rx ((hW2.own).sub (.cons _ (.cons _ hsI))) 1 (by decide) (by omega) 3 (by decide)))) ?_
   refine rl_v rfl rfl rfl (ov_pick_f rfl rfl rfl) <| rl_nil ?_
   first | refine run_cond_dec rfl (fun o2 => ?_) (fun o2 => ?_) | refine run_cond rfl (fun o2 => ?_) (fun o2 => ?_)
   ·refine run_seq <| run_region <| rl_v rfl rfl rfl (ov_move rfl rfl) <| rl_v rfl rfl rfl (ov_eql rfl rfl rfl) <| rl_v rfl rfl rfl (ov_move rfl rfl) ?_
    first | refine rl_yesD 95 rfl (rfl) ?_ | refine rl_yes 95 rfl (rfl) ?_
    refine rl_gcall callable_21 rfl rfl rfl rfl rfl rfl rfl rfl (hW2.call (Q := fun e => e = _) (fun N S hA => hA.call1 (Q := fun e => e = _) (fun H hO _ => awake_any w.heap.size H w w63 hO))) (fun e69 w70 hp71 => ?_)
    obtain ⟨rfl, hW3⟩ := hp71
    refine ⟨_, rfl, ?_⟩
    refine rl_v rfl rfl rfl (ov_pick_t rfl rfl rfl) <| rl_v rfl rfl rfl (ov_assign rfl rfl) <| rl_nil <| run_ret Try.func3 (res1 Try.results3 rfl) ?_
    exact ⟨rfl, (hW3.own).below⟩
   ·obtain ⟨p, hp⟩ : ∃ p, p = X.pr m := ⟨_, rfl⟩
    have hprm := hX.pr m hmX.1 hmX.2
    rw [← hp] at hprm
    have hA1 : X.act 1 = 0 := act_of (by omega) o1
    have hA2 : X.act 2 = 0 := act_of (by omega) o2
    obtain ⟨K4, L4, N4, hO7, hK4, hL4, hP4⟩ := hW2.pull
    rw [← hp]
    refine run_skip <| run_seq <| run_region <| rl_v rfl rfl rfl (ov_move rfl rfl) <| rl_v rfl rfl rfl (ov_fieldS rfl Try.underlying45 rfl (fo := 4) rfl (by kernel_rfl) rfl) ?_
    refine rl_ow rfl (ow_storeL rfl rfl (by kernel_rfl) hO7 0 rfl rfl rfl rfl rfl) ?_
    rintro _ w72 ⟨rfl, hO73, hs74⟩
    have hW3 : W2H w.heap.size w w72 ha Z0 hb X [] (some (lch b12 45 (ctL ⟨1, 2, m, q, p⟩)) :: some (lch b9 34 (ghL X G)) :: RR) := W2H.put hO73 hK4 hL4 hP4
    have hZmo : Z0.mo = X.mo := (congrArg Prod.snd hsm.dim).symm
    have hZm : Z0.mem = X.mem := (congrArg Prod.fst hsm.dim).symm
    have hmk0 : Z0.mrk m p = 0 := mrk_ok (X := Z0) (by omega) ⟨hprm.1, by omega⟩
    obtain ⟨Z1, hZ1⟩ : ∃ Z1, Z1 = Z0.mark m p := ⟨_, rfl⟩
    have hZ1B : HB 1 Z1 := by rw [hZ1]; exact hZB.mark (by omega) m p (.inl hprm.2)
    have hZ1e : Z1 = { Z0 with ac := fun j => Z0.mkA m p (Z0.ac j), pr := upd Z0.pr m p } := by rw [hZ1]; exact mark_of hmk0
    have hZ1a : ∀ j : Int, Z1.acct j = HA.z := fun j => by
     rw [hZ1e]
     show Z0.mkA m p (Z0.acct j) = _
     rw [hZa]
     unfold HM.mkA HA.z
     simp
    have hZ1o : ∀ j : Int, (Z1.acct j).out = false := fun j => by rw [hZ1a]; rfl
    have hZ1m : Z1.mem = X.mem := by rw [hZ1e]; exact hZm
    have hZ1mo : Z1.mo = X.mo := by rw [hZ1e]; exact hZmo
    have hE1 : Z1.act 1 = 0 := act_of (by omega) (hZ1o 1)
    have hE2 : Z1.act 2 = 0 := act_of (by omega) (hZ1o 2)
    obtain ⟨X1, hX1⟩ : ∃ X1, X1 = X.deposit 1 1000000000 := ⟨_, rfl⟩
    obtain ⟨X2, hX2⟩ : ∃ X2, X2 = X1.deposit 2 1000000000 := ⟨_, rfl⟩
    obtain ⟨Z2, hZ2⟩ : ∃ Z2, Z2 = Z1.deposit 1 1000000000 := ⟨_, rfl⟩
    obtain ⟨Z3, hZ3⟩ : ∃ Z3, Z3 = Z2.deposit 2 1000000000 := ⟨_, rfl⟩
    have hX1B : HB 51 X1 := by rw [hX1]; exact hX.deposit _ _
    have hX2B : HB 52 X2 := by rw [hX2]; exact hX1B.deposit _ _
    have hZ2B : HB 2 Z2 := by rw [hZ2]; exact hZ1B.deposit _ _
    have hZ3B : HB 3 Z3 := by rw [hZ3]; exact hZ2B.deposit _ _
    have hX12 : X1.act 2 = 0 := by rw [hX1, dep_act hA1]; exact hA2
    have hZ22 : Z2.act 2 = 0 := by rw [hZ2, dep_act hE1]; exact hE2
    have hDX : Dep2 X X2 := by rw [hX2, hX1]; exact dep2 hA1 hA2
    have hDZ : Dep2 Z1 Z3 := by rw [hZ3, hZ2]; exact dep2 hE1 hE2
    have hSX : SpY X2 m q := hDX.sp hX (by decide) hmX hqr hA1 hA2 (by have : _ ≤ (X.acct 1).cash := hlow (1 - 1) (by decide) (by omega); omega) (by have : _ ≤ (X.acct 2).cash := hlow (2 - 1) (by decide) (by omega); omega)
    have hSZ : SpY Z3 m q := hDZ.sp hZ1B (by decide) (by omega) hqr hE1 hE2 (by rw [hZ1a]; decide) (by rw [hZ1a]; decide)
    have hXp : X2.pr m = p := by rw [hDX.pr]; exact hp.symm
    have hZp : Z3.pr m = p := by rw [hDZ.pr, hZ1e]; exact upd_same _ _ _
    have hsp := spreads hSX hSZ (by rw [hDZ.k, hDX.k, hZ1e]; exact hsm.k.symm) (by rw [hDZ.mv, hDX.mv, hZ1e]; exact hsm.mv.symm) (by rw [hDZ.rate, hDX.rate, hZ1e]; exact hsm.rate.symm) (by rw [hXp, hZp]) (by rw [hDZ.a1, hZ1a]; rfl) (by rw [hDZ.a2, hZ1a]; rfl)
    have hok1 := hSX.ok
    have hok2 := hSZ.ok
    rw [hXp, hZp] at hsp
    rw [hXp] at hok1
    rw [hZp] at hok2
    obtain ⟨c, hc⟩ : ∃ c : Ct, c = ⟨1, 2, m, q, p⟩ := ⟨_, rfl⟩
    rw [← hc] at hsp hok1 hok2 hW3
    obtain ⟨X3, hX3⟩ : ∃ X3, X3 = X2.trade c := ⟨_, rfl⟩
    obtain ⟨Z4, hZ4⟩ : ∃ Z4, Z4 = Z3.trade c := ⟨_, rfl⟩
    have hX3B : HB 53 X3 := by rw [hX3]; exact hX2B.trade c (by rw [hc]; show q ≤ 100; omega)
    have hZ4B : HB 4 Z4 := by rw [hZ4]; exact hZ3B.trade c (by rw [hc]; show q ≤ 100; omega)
    rw [← hX3, ← hZ4] at hsp
    have hX2G := hX2B.hg (by omega)
    have hX3G := hX3B.hg (by omega)
    have hZ3G := hZ3B.hg (by omega)
    have hZ4G := hZ4B.hg (by omega)
    have hm2 : X2.mem = X.mem := hDX.mem
    have hm3 : X3.mem = X.mem := by rw [hX3]; exact (congrArg Prod.fst (tra_mem X2 c)).trans hm2
    have hmz3 : Z3.mem = X.mem := hDZ.mem.trans hZ1m
    have hmz4 : Z4.mem = X.mem := by rw [hZ4]; exact (congrArg Prod.fst (tra_mem Z3 c)).trans hmz3
    have i21 : X2.is 1 := ⟨by decide, by omega⟩
    have i22 : X2.is 2 := ⟨by decide, by omega⟩
    have i31 : X3.is 1 := ⟨by decide, by omega⟩
    have i32 : X3.is 2 := ⟨by decide, by omega⟩
    have j41 : Z4.is 1 := ⟨by decide, by omega⟩
    have j42 : Z4.is 2 := ⟨by decide, by omega⟩
    have n1 := need_rng hX2G i21
    have n2 := need_rng hX2G i22
    have n5 := need_rng hZ4G j41
    have n6 := need_rng hZ4G j42
    obtain ⟨L5, N5, hA5, hL5, hP5⟩ := hW3.left
    refine rl_nil <| run_seq <| run_seq <| run_region <| rl_v rfl rfl rfl (ov_move rfl rfl) <| rl_v rfl rfl rfl (ov_fieldS rfl Try.underlying45 rfl (fo := 2) rfl (by kernel_rfl) rfl) ?_
    refine rl_v rfl rfl rfl (ov_load rfl Try.underlying3 rfl rfl (by exact (show _ = some (iv m) from by have := (hW3.own).cellL 0 rfl (off := 2) rfl; rw [hc] at this; exact this))) ?_
    refine rl_v rfl rfl rfl (ov_move rfl rfl) ?_
    refine rl_call callable_22 rfl rfl rfl rfl rfl rfl (mark_any ha w.heap.size Z0 m p N5 _ w w72 hA5 (hZB.hg (by omega))) (fun e75 w76 hp77 => ?_)
    obtain ⟨v1, c1, rfl, hr1, hl1, hA6⟩ := hp77
    refine ⟨_, rfl, ?_⟩
    have hA7 := hA6.shed
    rw [← hZ1] at hA7
    have hW4 := W2H.of (T := []) hA7 hL5 hP5
    refine rl_v rfl rfl rfl (ov_move rfl rfl) <| rl_v rfl rfl rfl (ov_extract rfl rfl (by rfl)) ?_
    refine rl_v rfl rfl rfl (ov_extract rfl rfl (by rfl)) ?_
    refine rl_v rfl rfl rfl (ov_assign rfl rfl) <| rl_v rfl rfl rfl (ov_assign rfl rfl) <| rl_nil <| run_seq <| run_region <| rl_v rfl rfl rfl (ov_move rfl rfl) <| rl_v rfl rfl rfl (ov_neq rfl rfl rfl) <| rl_nil ?_
    first | refine run_cond_dec rfl (fun bad => ?_) (fun bad => ?_) | refine run_cond rfl (fun bad => ?_) (fun bad => ?_)
    ·exfalso; exact bad hmk0
    ·refine run_skip <| run_seq <| run_seq <| run_region <| rl_v rfl rfl rfl (ov_move rfl rfl) ?_
     refine rl_call callable_23 rfl rfl rfl rfl rfl rfl (hW4.call' (Q := fun e => e = .returned (iv (X.mny 1 1000000000))) (X2 := X1) (fun N S hA => by rw [hX1]; exact deposit_any hb w.heap.size X 1 1000000000 N S w w76 hA hG)) (fun e78 w79 hp80 => ?_)
     obtain ⟨rfl, hW5⟩ := hp80
     refine ⟨_, rfl, ?_⟩
     refine rl_v rfl rfl rfl (ov_neq rfl rfl rfl) <| rl_v rfl rfl rfl (ov_move rfl rfl) ?_
     first | refine rl_noD 113 rfl (fun h => h (mny_ok9 hA1)) ?_ | refine rl_no 113 rfl (fun h => h (mny_ok9 hA1)) ?_
     refine rl_gv rfl rfl rfl rfl rfl (ov_move rfl rfl) ?_
     refine rl_gcall callable_23 rfl rfl rfl rfl rfl rfl rfl rfl (hW5.call' (Q := fun e => e = .returned (iv (X1.mny 2 1000000000))) (X2 := X2) (fun N S hA => by rw [hX2]; exact deposit_any hb w.heap.size X1 2 1000000000 N S w w79 hA (hX1B.hg (by omega)))) (fun e81 w82 hp83 => ?_)
     obtain ⟨rfl, hW6⟩ := hp83
     refine ⟨_, rfl, ?_⟩
     refine rl_gv rfl rfl rfl rfl rfl (ov_neq rfl rfl rfl) <| rl_v rfl rfl rfl (ov_pick_f rfl rfl rfl) <| rl_v rfl rfl rfl (ov_move rfl rfl) ?_
     first | refine rl_noD 118 rfl (fun h => h (mny_ok9 hX12)) ?_ | refine rl_no 118 rfl (fun h => h (mny_ok9 hX12)) ?_
     refine rl_gv rfl rfl rfl rfl rfl (ov_move rfl rfl) ?_
     refine rl_gcall callable_23 rfl rfl rfl rfl rfl rfl rfl rfl (hW6.call (Q := fun e => e = .returned (iv (Z1.mny 1 1000000000))) (Z2 := Z2) (fun N S hA => by rw [hZ2]; exact deposit_any ha w.heap.size Z1 1 1000000000 N S w w82 hA (hZ1B.hg (by omega)))) (fun e84 w85 hp86 => ?_)
     obtain ⟨rfl, hW7⟩ := hp86
     refine ⟨_, rfl, ?_⟩
     refine rl_gv rfl rfl rfl rfl rfl (ov_neq rfl rfl rfl) <| rl_v rfl rfl rfl (ov_pick_f rfl rfl rfl) <| rl_v rfl rfl rfl (ov_move rfl rfl) ?_
     first | refine rl_noD 123 rfl (fun h => h (mny_ok9 hE1)) ?_ | refine rl_no 123 rfl (fun h => h (mny_ok9 hE1)) ?_
     refine rl_gv rfl rfl rfl rfl rfl (ov_move rfl rfl) ?_
     refine rl_gcall callable_23 rfl rfl rfl rfl rfl rfl rfl rfl (hW7.call (Q := fun e => e = .returned (iv (Z2.mny 2 1000000000))) (Z2 := Z3) (fun N S hA => by rw [hZ3]; exact deposit_any ha w.heap.size Z2 2 1000000000 N S w w85 hA (hZ2B.hg (by omega)))) (fun e87 w88 hp89 => ?_)
     obtain ⟨rfl, hW8⟩ := hp89
     refine ⟨_, rfl, ?_⟩
     refine rl_gv rfl rfl rfl rfl rfl (ov_neq rfl rfl rfl) <| rl_v rfl rfl rfl (ov_pick_f rfl rfl rfl) <| rl_nil ?_
     first | refine run_cond_dec rfl (fun bad => ?_) (fun bad => ?_) | refine run_cond rfl (fun bad => ?_) (fun bad => ?_)
     ·exfalso; exact bad (mny_ok9 hZ22)
     ·refine run_skip <| run_seq <| run_region <| rl_v rfl rfl rfl (ov_move rfl rfl) ?_
      refine rl_call callable_24 rfl rfl rfl rfl rfl rfl (hW8.call' (Q := fun e => e = _) (fun N S hA => margin_in hb w.heap.size X2 N S w w88 hA hX2G 1 i21)) (fun e90 w91 hp92 => ?_)
      obtain ⟨rfl, hW9⟩ := hp92
      refine ⟨_, rfl, ?_⟩
      refine rl_v rfl rfl rfl (ov_move rfl rfl) <| rl_v rfl rfl rfl (ov_extract rfl rfl (by rfl)) ?_
      refine rl_v rfl rfl rfl (ov_extract rfl rfl (by rfl)) ?_
      refine rl_v rfl rfl rfl (ov_assign rfl rfl) <| rl_v rfl rfl rfl (ov_assign rfl rfl) <| rl_nil <| run_seq <| run_region <| rl_v rfl rfl rfl (ov_move rfl rfl) ?_
      refine rl_call callable_24 rfl rfl rfl rfl rfl rfl (hW9.call' (Q := fun e => e = _) (fun N S hA => margin_in hb w.heap.size X2 N S w w91 hA hX2G 2 i22)) (fun e93 w94 hp95 => ?_)
      obtain ⟨rfl, hW10⟩ := hp95
      refine ⟨_, rfl, ?_⟩
      refine rl_v rfl rfl rfl (ov_move rfl rfl) <| rl_v rfl rfl rfl (ov_extract rfl rfl (by rfl)) ?_
      refine rl_v rfl rfl rfl (ov_extract rfl rfl (by rfl)) ?_
      refine rl_v rfl rfl rfl (ov_assign rfl rfl) <| rl_v rfl rfl rfl (ov_assign rfl rfl) <| rl_nil <| run_seq <| run_region <| rl_v rfl rfl rfl (ov_move rfl rfl) <| rl_v rfl rfl rfl (ov_loadW rfl Try.underlying45 rfl (by kernel_rfl) rfl (hW10.own) 0 rfl) ?_
      refine rl_call callable_25 rfl rfl rfl rfl rfl rfl (hW10.call' (Q := fun e => e = .returned (.tuple #[iv (if X2.trd c = 0 then X2.n + 1 else 0), iv (X2.trd c)])) (X2 := X3) (fun N S hA => by rw [hX3]; exact trade_any hb w.heap.size X2 c N S w w94 hA hX2G)) (fun e96 w97 hp98 => ?_)
      obtain ⟨rfl, hW11⟩ := hp98
      refine ⟨_, rfl, ?_⟩
      refine rl_v rfl rfl rfl (ov_move rfl rfl) <| rl_v rfl rfl rfl (ov_extract rfl rfl (by rfl)) ?_
      refine rl_v rfl rfl rfl (ov_extract rfl rfl (by rfl)) ?_
      refine rl_v rfl rfl rfl (ov_assign rfl rfl) <| rl_v rfl rfl rfl (ov_assign rfl rfl) <| rl_nil <| run_seq <| run_region <| rl_v rfl rfl rfl (ov_move rfl rfl) <| rl_v rfl rfl rfl (ov_loadW rfl Try.underlying45 rfl (by kernel_rfl) rfl (hW11.own) 0 rfl) ?_
      refine rl_call callable_25 rfl rfl rfl rfl rfl rfl (hW11.call (Q := fun e => e = .returned (.tuple #[iv (if Z3.trd c = 0 then Z3.n + 1 else 0), iv (Z3.trd c)])) (Z2 := Z4) (fun N S hA => by rw [hZ4]; exact trade_any ha w.heap.size Z3 c N S w w97 hA hZ3G)) (fun e99 w100 hp101 => ?_)
      obtain ⟨rfl, hW12⟩ := hp101
      refine ⟨_, rfl, ?_⟩
      refine rl_v rfl rfl rfl (ov_move rfl rfl) <| rl_v rfl rfl rfl (ov_extract rfl rfl (by rfl)) ?_
      refine rl_v rfl rfl rfl (ov_extract rfl rfl (by rfl)) ?_
      refine rl_v rfl rfl rfl (ov_assign rfl rfl) <| rl_v rfl rfl rfl (ov_assign rfl rfl) <| rl_nil <| run_seq <| run_region <| rl_v rfl rfl rfl (ov_move rfl rfl) ?_
      refine rl_call callable_24 rfl rfl rfl rfl rfl rfl (hW12.call' (Q := fun e => e = _) (fun N S hA => margin_in hb w.heap.size X3 N S w w100 hA hX3G 1 i31)) (fun e102 w103 hp104 => ?_)
      obtain ⟨rfl, hW13⟩ := hp104
      refine ⟨_, rfl, ?_⟩
      refine rl_v rfl rfl rfl (ov_move rfl rfl) <| rl_v rfl rfl rfl (ov_extract rfl rfl (by rfl)) ?_
      refine rl_v rfl rfl rfl (ov_extract rfl rfl (by rfl)) ?_
      refine rl_v rfl rfl rfl (ov_assign rfl rfl) <| rl_v rfl rfl rfl (ov_assign rfl rfl) <| rl_nil <| run_seq <| run_region <| rl_v rfl rfl rfl (ov_move rfl rfl) ?_
      refine rl_call callable_24 rfl rfl rfl rfl rfl rfl (hW13.call' (Q := fun e => e = _) (fun N S hA => margin_in hb w.heap.size X3 N S w w103 hA hX3G 2 i32)) (fun e105 w106 hp107 => ?_)
      obtain ⟨rfl, hW14⟩ := hp107
      refine ⟨_, rfl, ?_⟩
      refine rl_v rfl rfl rfl (ov_move rfl rfl) <| rl_v rfl rfl rfl (ov_extract rfl rfl (by rfl)) ?_
      refine rl_v rfl rfl rfl (ov_extract rfl rfl (by rfl)) ?_
      refine rl_v rfl rfl rfl (ov_assign rfl rfl) <| rl_v rfl rfl rfl (ov_assign rfl rfl) <| rl_nil <| run_seq <| run_region <| rl_v rfl rfl rfl (ov_move rfl rfl) ?_
      refine rl_call callable_24 rfl rfl rfl rfl rfl rfl (hW14.call (Q := fun e => e = _) (fun N S hA => margin_in ha w.heap.size Z4 N S w w106 hA hZ4G 1 j41)) (fun e108 w109 hp110 => ?_)
      obtain ⟨rfl, hW15⟩ := hp110
      refine ⟨_, rfl, ?_⟩
      refine rl_v rfl rfl rfl (ov_move rfl rfl) <| rl_v rfl rfl rfl (ov_extract rfl rfl (by rfl)) ?_
      refine rl_v rfl rfl rfl (ov_extract rfl rfl (by rfl)) ?_
      refine rl_v rfl rfl rfl (ov_assign rfl rfl) <| rl_v rfl rfl rfl (ov_assign rfl rfl) <| rl_nil <| run_seq <| run_region <| rl_v rfl rfl rfl (ov_move rfl rfl) ?_
      refine rl_call callable_24 rfl rfl rfl rfl rfl rfl (hW15.call (Q := fun e => e = _) (fun N S hA => margin_in ha w.heap.size Z4 N S w w109 hA hZ4G 2 j42)) (fun e111 w112 hp113 => ?_)
      obtain ⟨rfl, hW16⟩ := hp113
      refine ⟨_, rfl, ?_⟩
      refine rl_v rfl rfl rfl (ov_move rfl rfl) <| rl_v rfl rfl rfl (ov_extract rfl rfl (by rfl)) ?_
      refine rl_v rfl rfl rfl (ov_extract rfl rfl (by rfl)) ?_
      refine rl_v rfl rfl rfl (ov_assign rfl rfl) <| rl_v rfl rfl rfl (ov_assign rfl rfl) <| rl_nil <| run_seq <| run_region <| rl_v rfl rfl rfl (ov_move rfl rfl) <| rl_v rfl rfl rfl (ov_eql rfl rfl rfl) <| rl_v rfl rfl rfl (ov_move rfl rfl) ?_
      first | refine rl_yesD 172 rfl (hok1) ?_ | refine rl_yes 172 rfl (hok1) ?_
      refine rl_gv rfl rfl rfl rfl rfl (ov_move rfl rfl) <| rl_gv rfl rfl rfl rfl rfl (ov_eql rfl rfl rfl) <| rl_v rfl rfl rfl (ov_pick_t rfl rfl rfl) <| rl_v rfl rfl rfl (ov_move rfl rfl) ?_
      first | refine rl_yesD 176 rfl (hok2) ?_ | refine rl_yes 176 rfl (hok2) ?_
      refine rl_gv rfl rfl rfl rfl rfl (ov_move rfl rfl) <| rl_gv rfl rfl rfl rfl rfl (ov_move rfl rfl) <| rl_gv rfl rfl rfl rfl rfl (ov_move rfl rfl) <| rl_gv rfl rfl rfl rfl rfl (ov_add rfl rfl rfl (by omega)) ?_
      refine rl_gv rfl rfl rfl rfl rfl (ov_leq rfl rfl rfl) <| rl_v rfl rfl rfl (ov_pick_t rfl rfl rfl) <| rl_v rfl rfl rfl (ov_move rfl rfl) ?_
      first | refine rl_yesD 183 rfl (hsp.1) ?_ | refine rl_yes 183 rfl (hsp.1) ?_
      refine rl_gv rfl rfl rfl rfl rfl (ov_move rfl rfl) <| rl_gv rfl rfl rfl rfl rfl (ov_move rfl rfl) <| rl_gv rfl rfl rfl rfl rfl (ov_move rfl rfl) <| rl_gv rfl rfl rfl rfl rfl (ov_add rfl rfl rfl (by omega)) ?_
      refine rl_gv rfl rfl rfl rfl rfl (ov_leq rfl rfl rfl) <| rl_v rfl rfl rfl (ov_pick_t rfl rfl rfl) <| rl_v rfl rfl rfl (ov_move rfl rfl) ?_
      first | refine rl_yesD 190 rfl (hsp.2) ?_ | refine rl_yes 190 rfl (hsp.2) ?_
      refine rl_gcall callable_21 rfl rfl rfl rfl rfl rfl rfl rfl (hW16.call (Q := fun e => e = _) (fun N S hA => hA.call1 (Q := fun e => e = _) (fun H hO _ => awake_any w.heap.size H w w112 hO))) (fun e114 w115 hp116 => ?_)
      obtain ⟨rfl, hW17⟩ := hp116
      refine ⟨_, rfl, ?_⟩
      refine rl_v rfl rfl rfl (ov_pick_t rfl rfl rfl) <| rl_v rfl rfl rfl (ov_assign rfl rfl) <| rl_nil <| run_ret Try.func3 (res1 Try.results3 rfl) ?_
      exact ⟨rfl, (hW17.own).below⟩
end Go.Proofs.Ytfbbagnpdfafjaa
