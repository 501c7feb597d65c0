import Derived.Test.YtfbbagnpdfafjaaHcT
import Derived.Test.YtfbbagnpdfafjaaHdB
set_option maxRecDepth 100000
namespace Go.Proofs.Ytfbbagnpdfafjaa
open Go.RowKit Go.Proofs
theorem sameLh (a b c d e : Int) : ∀ f ∈ (Try.prog.fieldsOf 60).toList, ∃ (kk : IntKind) (q : Int), Try.prog.underlying f.type = some (.int kk) ∧ (lossV [a, b, c, d, e]).toArray[f.offset]? = some (.int kk q) := by
 unfold Program.fieldsOf
 rw [Try.underlying60]
 intro f hf
 simp only [List.mem_cons, List.not_mem_nil, or_false] at hf
 rcases hf with rfl | rfl | rfl | rfl | rfl
 ·exact ⟨.i64, a, Try.underlying2, rfl⟩
 ·exact ⟨.i64, b, Try.underlying2, rfl⟩
 ·exact ⟨.i64, c, Try.underlying2, rfl⟩
 ·exact ⟨.i64, d, Try.underlying2, rfl⟩
 ·exact ⟨.i64, e, Try.underlying2, rfl⟩
theorem ov_eqlLh {N : Nat} {o : Oper} {F : Fr} {w : World} {x y : Operand} {U : TypeId} {a b c d e : Int} (ho : o.op = .binOp .eql 60 x y U) (hx : Fr.ev F x = some (.agg (lossV [a, b, c, d, e]).toArray)) (hy : Fr.ev F y = some (.agg (lossV [a, b, c, d, e]).toArray)) : OpV Try.prog N o F w (.bool true) :=
 ov_eqlS ho (by unfold Program.fieldsOf; rw [Try.underlying60]) (sameLh a b c d e) (by kernel_rfl) (by kernel_rfl) hx hy
theorem sm_fall {f : Int → Int} {k : Int} {M : Int} (k0 : 0 ≤ k) (hf : ∀ j : Int, 0 ≤ j → j < k → 0 ≤ f j ∧ f j ≤ M) : 0 ≤ sm f k ∧ sm f k ≤ k * M :=
 ⟨sm_nonneg fun j j0 j1 => (hf j j0 j1).1, sm_bound M k0 fun j j0 j1 => (hf j j0 j1).2⟩
set_option maxHeartbeats 8000000 in
theorem falls9_any (mm mn : Int) (pa ma la : Option Addr) (pn pc mk mc ln lc : Nat) (rt cp : Int) (P0 : Int → Int) (L0 : Int → Nat) (F0 : Int → Int → Int) (S : HActs) (mb : Int) (w : World) (hP : IAt w.heap.size w pa pn (fun i => iv (P0 i))) (hT : ITab w.heap.size w ma mk L0 (fun r c => iv (F0 r c))) (hS : SAt w.heap.size w la 7 ln S.l) :
  Calls Try.prog 8 #[.agg (cfL mm mn pa pn pc ma mk mc rt cp).toArray, .slice la ln lc, iv mb] w fun e w' => e = .returned (.bool true) ∧ Below w.heap.size w w' := by
 refine calls_of_run (F := [(0, _), (1, _), (2, _)]) Try.func8 rfl Try.ntmps8 rfl rfl <| run_seq <| run_region <| rl_ow rfl (ow_box _ rfl rfl rfl rfl rfl (Own.init w)) ?_
 rintro _ w1 ⟨b3, rfl, hO2, hs3⟩
 refine rl_v rfl rfl rfl (ov_assign rfl rfl) <| rl_nil <| run_seq <| run_region <| rl_v rfl rfl rfl (ov_loadW rfl Try.underlying25 rfl (by kernel_rfl) rfl hO2 0 rfl) ?_
 refine rl_call callable_15 rfl rfl rfl rfl rfl rfl (tame_any mm mn pa ma pn pc mk mc rt cp P0 L0 F0 w.heap.size _ w w1 hO2 hP hT) (fun e4 w5 hp6 => ?_)
 obtain ⟨mem, mon, pa2, ma2, pc2, k2, mc2, P, F, rate, cap, N, rfl, hC, hO2⟩ := hp6
 refine ⟨_, rfl, ?_⟩
 have hmem := hC.hmem
 have hmon := hC.hmon
 refine rl_ow rfl (ow_alloc _ rfl rfl rfl zero_25 rfl hO2) ?_
 rintro _ w7 ⟨b7, rfl, hO8, hs9⟩
 refine rl_ow rfl (ow_storeW rfl rfl (by kernel_rfl) hO8 0 rfl rfl (by rfl) rfl (by rfl)) ?_
 rintro _ w10 ⟨rfl, hO11, hs12⟩
 refine rl_nil <| run_seq <| run_region <| rl_v rfl rfl rfl (ov_loadW rfl Try.underlying25 rfl (by kernel_rfl) rfl hO11 0 rfl) ?_
 refine rl_v rfl rfl rfl (ov_move rfl rfl) ?_
 refine rl_call callable_16 rfl rfl rfl rfl rfl rfl (run_any mem mon pa2 ma2 la pc2 k2 mc2 ln lc P F rate cap 30 S N w.heap.size _ w w10 hO11 (.cons _ (List.sublist_append_left _ _)) hC hS (by decide)) (fun e13 w14 hp15 => ?_)
 obtain ⟨hb, X, T, G, rfl, ⟨hX, hsm, _⟩, hI, hH0⟩ := hp15
 refine ⟨_, rfl, ?_⟩
 have hXG := hX.gg (by omega)
 have hG := hXG.g
 have hXmo : X.mo = mon := congrArg Prod.snd hsm.dim
 have hXm : X.mem = mem.toNat := congrArg Prod.fst hsm.dim
 have hmn := X.mn_eq hXG.mo
 obtain ⟨RR, hRR⟩ : ∃ RR, RR = T ++ (some (lch b7 25 (cfL mem mon pa2 mon.toNat pc2 ma2 k2 mc2 rate cap)) :: (N ++ [some (lch b3 25 (cfL mm mn pa pn pc ma mk mc rt cp))])) := ⟨_, rfl⟩
 obtain ⟨TN, hTN⟩ : ∃ TN, TN = T ++ N := ⟨_, rfl⟩
 have hsI : TN.Sublist RR := by rw [hRR, hTN]; exact List.Sublist.append_left (.cons _ (List.sublist_append_left _ _)) T
 have hs7 : [some (lch b7 25 (cfL mem mon pa2 mon.toNat pc2 ma2 k2 mc2 rate cap))].Sublist RR := by
  rw [hRR]
  exact (List.Sublist.cons_cons _ (List.nil_sublist _)).trans (List.sublist_append_right T _)
 replace hH0 : HAt w.heap.size w w14 hb X [] RR := by rw [hRR]; exact hH0
 replace hI : GIn TN X G := by rw [hTN]; exact hI
 clear hRR hTN
 obtain ⟨K1, N1, hO3, hK1, hP1⟩ := hH0.open
 refine rl_v rfl rfl rfl (ov_move rfl rfl) <| rl_v rfl rfl rfl (ov_extract rfl rfl (by rfl)) ?_
 refine rl_v rfl rfl rfl (ov_extract rfl rfl (by rfl)) ?_
 refine rl_ow rfl (ow_alloc _ rfl rfl rfl zero_34 rfl hO3) ?_
 rintro _ w16 ⟨b9, rfl, hO17, hs18⟩
 refine rl_v rfl rfl rfl (ov_assign rfl rfl) <| rl_ow rfl (ow_storeW rfl rfl (by kernel_rfl) hO17 0 rfl rfl (by rfl) rfl (by rfl)) ?_
 rintro _ w19 ⟨rfl, hO20, hs21⟩
 have hH1 : HAt w.heap.size w w19 hb X [] (some (lch b9 34 (ghL X G)) :: RR) := HAt.puts [some (lch b9 34 (ghL X G))] hO20 hK1 hP1
 refine rl_nil <| run_seq <| run_seq <| run_region <| rl_v rfl rfl rfl (ov_move rfl rfl) <| rl_v rfl rfl rfl (ov_ptrnil rfl Try.underlying30 rfl) <| rl_nil <| run_cond_f rfl ?_
 have hmr : 0 ≤ IntKind.u64.wrap mb % mem ∧ IntKind.u64.wrap mb % mem < mem := ⟨Int.emod_nonneg _ (by omega), Int.emod_lt_of_pos _ (by omega)⟩
 obtain ⟨n, hn⟩ : ∃ n, n = 1 + IntKind.u64.wrap mb % mem := ⟨_, rfl⟩
 have hn2 : 1 ≤ n ∧ n ≤ X.mem := by omega
 obtain ⟨z1, z2, z3, z4, z5, hz⟩ := loss5 X n
 refine run_skip <| run_seq <| run_region <| rl_v rfl rfl rfl (ov_move rfl rfl) <| rl_v rfl rfl rfl (ov_conv rfl Try.underlying3 Try.underlying42 rfl) <| rl_v rfl rfl rfl (ov_fieldS rfl Try.underlying25 rfl (fo := 0) rfl (by kernel_rfl) rfl) ?_
 refine rl_v rfl rfl rfl (ov_load rfl Try.underlying3 rfl rfl (by exact ((hH1.own).sub (.cons _ hs7)).cellL 0 rfl (off := 0) rfl)) ?_
 refine rl_v rfl rfl rfl (nv (ov_conv rfl Try.underlying3 Try.underlying42 rfl) ((wPos (by omega) (by omega)).trans (Int.toNat_of_nonneg (by omega)))) ?_
 refine rl_v rfl rfl rfl (ov_rem rfl rfl rfl (u64_nn _) (by omega)) ?_
 refine rl_v rfl rfl rfl (nv (ov_conv rfl Try.underlying42 Try.underlying3 rfl) (IntWalk.i64_in _ (by omega))) ?_
 refine rl_v rfl rfl rfl (nv (ov_add rfl rfl rfl (by omega)) hn.symm) ?_
 refine rl_v rfl rfl rfl (ov_assign rfl rfl) <| rl_nil <| run_seq <| run_region <| rl_v rfl rfl rfl (ov_move rfl rfl) <| rl_v rfl rfl rfl (ov_move rfl rfl) ?_
 refine rl_call callable_29 rfl rfl rfl rfl rfl rfl (default_l hb w.heap.size X n [] _ w w19 hH1 hG (by omega) hX.Z _ hz) (fun e22 w23 hp24 => ?_)
 obtain ⟨rfl, hH2⟩ := hp24
 refine ⟨_, rfl, ?_⟩
 obtain ⟨D, hD⟩ : ∃ D, D = X.dflt n := ⟨_, rfl⟩
 rw [← hD] at hH2
 have hDB : HB 51 D := by rw [hD]; exact hX.dflt (by omega) n
 have hDG := hDB.hg (by omega)
 have hdm : D.dim = X.dim := by rw [hD]; exact dfl_mem X n
 have hDm : D.mem = X.mem := congrArg Prod.fst hdm
 have hDo : D.mo = X.mo := congrArg Prod.snd hdm
 have hDn := D.mn_eq (by omega)
 obtain ⟨K2, N2, hO4, hK2, hP2⟩ := hH2.open
 refine rl_v rfl rfl rfl (ov_move rfl rfl) <| rl_v rfl rfl rfl (ov_extract rfl rfl (by rfl)) ?_
 refine rl_v rfl rfl rfl (ov_extract rfl rfl (by rfl)) ?_
 refine rl_ow rfl (ow_alloc _ rfl rfl rfl zero_60 rfl hO4) ?_
 rintro _ w25 ⟨b11, rfl, hO26, hs27⟩
 refine rl_ow rfl (ow_storeW rfl rfl (by kernel_rfl) hO26 0 rfl rfl (by rfl) rfl (by rfl)) ?_
 rintro _ w28 ⟨rfl, hO29, hs30⟩
 have hH3 := HAt.puts [some (lch b11 60 (lossV [z1, z2, z3, z4, z5]))] hO29 hK2 hP2
 obtain ⟨xb, xo, ex, rx⟩ := hI.av.at (by decide) (hH3.own.sub (.cons _ (.cons _ hsI))) (by omega)
 obtain ⟨K3, N3, hO5, hK3, hP3⟩ := hH3.open
 refine rl_v rfl rfl rfl (ov_assign rfl rfl) <| rl_nil <| run_seq <| run_region <| rl_v rfl rfl rfl (ov_fieldS rfl Try.underlying34 rfl (fo := 7) rfl (by kernel_rfl) rfl) ?_
 refine rl_v rfl rfl rfl (ov_load rfl Try.underlying31 rfl rfl (by exact hH3.own.cellL 1 rfl (off := 7) rfl)) ?_
 refine rl_v rfl rfl rfl (ov_move rfl rfl) <| rl_v rfl rfl rfl (ov_sub rfl rfl rfl (by omega)) ?_
 refine rl_v rfl rfl rfl (ov_index rfl Try.underlying31 (by kernel_rfl) (s := 4) rfl rfl ⟨by omega, by omega⟩ (by exact (id ex))) ?_
 refine rl_v rfl rfl rfl (ov_loadE rfl Try.underlying49 rfl (by kernel_rfl) rfl ⟨by omega, by omega⟩ rfl ((rx (hH3.own.sub (.cons _ (.cons _ hsI)))))) ?_
 refine rl_ow rfl (ow_alloc _ rfl rfl rfl zero_49 rfl hO5) ?_
 rintro _ w31 ⟨b13, rfl, hO32, hs33⟩
 refine rl_ow rfl (ow_storeW rfl rfl (by kernel_rfl) hO32 0 rfl rfl (by rfl) rfl (by rfl)) ?_
 rintro _ w34 ⟨rfl, hO35, hs36⟩
 have hH4 := HAt.puts [some (lch b13 49 (gacL (X.acct n) (G.qa (n - 1)) X.mn (G.qc (n - 1))))] hO35 hK3 hP3
 refine rl_nil <| run_seq <| run_seq <| run_region <| rl_v rfl rfl rfl (ov_fieldS rfl Try.underlying49 rfl (fo := 3) rfl (by kernel_rfl) rfl) ?_
 refine rl_v rfl rfl rfl (ov_load rfl Try.underlying4 rfl rfl (by exact (hH4.own).cellL 0 rfl (off := 3) rfl)) ?_
 refine rl_nil ?_
 first | refine run_cond_dec rfl (fun o1 => ?_) (fun o1 => ?_) | refine run_cond rfl (fun o1 => ?_) (fun o1 => ?_)
 ·have ha : X.act n = 5 := (if_pos hn2).trans (if_pos o1)
  have hDX : D = X := by rw [hD]; exact if_neg (by rw [ha]; decide)
  have hz0 : X.loss n = [0, 0, 0, 0, 0] := if_neg fun h => by rw [ha] at h; exact absurd h.1 (by decide)
  rw [hz0] at hz
  injection hz with h1 hz
  injection hz with h2 hz
  injection hz with h3 hz
  injection hz with h4 hz
  injection hz with h5 hz
  subst h1 h2 h3 h4 h5
  subst hDX
  refine run_seq <| run_region <| rl_v rfl rfl rfl (ov_move rfl rfl) <| rl_v rfl rfl rfl (ov_eql rfl rfl rfl) <| rl_v rfl rfl rfl (ov_move rfl rfl) ?_
  first | refine rl_yesD 59 rfl (ha) ?_ | refine rl_yes 59 rfl (ha) ?_
  refine rl_gv rfl rfl rfl rfl rfl (ov_loadW rfl Try.underlying60 rfl (by kernel_rfl) rfl (hH4.own) 1 rfl) ?_
  refine rl_gv rfl rfl rfl rfl rfl (ov_buildL rfl lay_60 rfl (us := [_, _, _, _, _]) rfl) <| rl_gv rfl rfl rfl rfl rfl (ov_eqlLh (a := 0) (b := 0) (c := 0) (d := 0) (e := 0) rfl rfl rfl) <| rl_v rfl rfl rfl (ov_pick_t rfl rfl rfl) <| rl_v rfl rfl rfl (ov_move rfl rfl) ?_
  first | refine rl_yesD 64 rfl (rfl) ?_ | refine rl_yes 64 rfl (rfl) ?_
  refine rl_gv rfl rfl rfl rfl rfl (ov_move rfl rfl) <| rl_gv rfl rfl rfl rfl rfl (ov_loadW rfl Try.underlying34 rfl (by kernel_rfl) rfl (hH4.own) 2 rfl) ?_
  refine rl_gcall callable_35 rfl rfl rfl rfl rfl rfl rfl rfl (shows_any hb w.heap.size D G [] TN _ w w34 hH4 hI (.cons _ (.cons _ (.cons _ hsI))) hXG) (fun e37 w38 hp39 => ?_)
  obtain ⟨rfl, hH5⟩ := hp39
  refine ⟨_, rfl, ?_⟩
  refine rl_v rfl rfl rfl (ov_pick_t rfl rfl rfl) <| rl_v rfl rfl rfl (ov_move rfl rfl) ?_
  first | refine rl_yesD 69 rfl (rfl) ?_ | refine rl_yes 69 rfl (rfl) ?_
  refine rl_gcall callable_21 rfl rfl rfl rfl rfl rfl rfl rfl (hH5.call1 (Q := fun e => e = _) (fun H hO _ => awake_any w.heap.size H w w38 hO)) (fun e40 w41 hp42 => ?_)
  obtain ⟨rfl, hH6⟩ := hp42
  refine ⟨_, rfl, ?_⟩
  refine rl_v rfl rfl rfl (ov_pick_t rfl rfl rfl) <| rl_v rfl rfl rfl (ov_assign rfl rfl) <| rl_nil <| run_ret Try.func8 (res1 Try.results8 rfl) ?_
  exact ⟨rfl, (hH6.own).below⟩
 ·have ha : X.act n = 0 := (if_pos hn2).trans (if_neg (by rw [o1]; exact Bool.noConfusion))
  obtain ⟨y1, y2, y3, y4, y5, hy, hF⟩ := dflt_fell hX ha
  rw [hy] at hz
  replace hz := hz.symm
  injection hz with h1 hz
  injection hz with h2 hz
  injection hz with h3 hz
  injection hz with h4 hz
  injection hz with h5 hz
  subst h1 h2 h3 h4 h5
  rw [← hD] at hF
  have hcn : (X.acct n).cash.natAbs ≤ _ := hX.cash (n - 1) (by omega) (by omega)
  have hfn : 0 ≤ (X.acct n).fund ∧ (X.acct n).fund ≤ _ := hX.fund (n - 1) (by omega) (by omega)
  have hcap := hX.cap
  obtain ⟨nn1, nn2, nn3, nn4, nn5⟩ := hF.nn
  have hsum := hF.sum
  obtain ⟨ow1, ow2, ow3⟩ := hF.own
  have hFc := hF.cap
  refine run_skip <| run_seq <| run_seq <| run_region <| rl_v rfl rfl rfl (ov_move rfl rfl) <| rl_v rfl rfl rfl (ov_neq rfl rfl rfl) <| rl_v rfl rfl rfl (ov_move rfl rfl) ?_
  first | refine rl_noD 74 rfl (fun h => h ha) ?_ | refine rl_no 74 rfl (fun h => h ha) ?_
  refine rl_gv rfl rfl rfl rfl rfl (ov_fieldS rfl Try.underlying60 rfl (fo := 0) rfl (by kernel_rfl) rfl) ?_
  refine rl_gv rfl rfl rfl rfl rfl (ov_load rfl Try.underlying2 rfl rfl (by exact (hH4.own).cellL 1 rfl (off := 0) rfl)) ?_
  refine rl_gv rfl rfl rfl rfl rfl (ov_lss rfl rfl rfl) <| rl_v rfl rfl rfl (ov_pick_f rfl rfl rfl) <| rl_v rfl rfl rfl (ov_move rfl rfl) ?_
  first | refine rl_noD 79 rfl ((by omega)) ?_ | refine rl_no 79 rfl ((by omega)) ?_
  refine rl_gv rfl rfl rfl rfl rfl (ov_fieldS rfl Try.underlying60 rfl (fo := 1) rfl (by kernel_rfl) rfl) ?_
  refine rl_gv rfl rfl rfl rfl rfl (ov_load rfl Try.underlying2 rfl rfl (by exact (hH4.own).cellL 1 rfl (off := 1) rfl)) ?_
  refine rl_gv rfl rfl rfl rfl rfl (ov_lss rfl rfl rfl) <| rl_v rfl rfl rfl (ov_pick_f rfl rfl rfl) <| rl_v rfl rfl rfl (ov_move rfl rfl) ?_
  first | refine rl_noD 84 rfl ((by omega)) ?_ | refine rl_no 84 rfl ((by omega)) ?_
  refine rl_gv rfl rfl rfl rfl rfl (ov_fieldS rfl Try.underlying60 rfl (fo := 2) rfl (by kernel_rfl) rfl) ?_
  refine rl_gv rfl rfl rfl rfl rfl (ov_load rfl Try.underlying2 rfl rfl (by exact (hH4.own).cellL 1 rfl (off := 2) rfl)) ?_
  refine rl_gv rfl rfl rfl rfl rfl (ov_lss rfl rfl rfl) <| rl_v rfl rfl rfl (ov_pick_f rfl rfl rfl) <| rl_v rfl rfl rfl (ov_move rfl rfl) ?_
  first | refine rl_noD 89 rfl ((by omega)) ?_ | refine rl_no 89 rfl ((by omega)) ?_
  refine rl_gv rfl rfl rfl rfl rfl (ov_fieldS rfl Try.underlying60 rfl (fo := 3) rfl (by kernel_rfl) rfl) ?_
  refine rl_gv rfl rfl rfl rfl rfl (ov_load rfl Try.underlying2 rfl rfl (by exact (hH4.own).cellL 1 rfl (off := 3) rfl)) ?_
  refine rl_gv rfl rfl rfl rfl rfl (ov_lss rfl rfl rfl) <| rl_v rfl rfl rfl (ov_pick_f rfl rfl rfl) <| rl_v rfl rfl rfl (ov_move rfl rfl) ?_
  first | refine rl_noD 94 rfl ((by omega)) ?_ | refine rl_no 94 rfl ((by omega)) ?_
  refine rl_gv rfl rfl rfl rfl rfl (ov_fieldS rfl Try.underlying60 rfl (fo := 4) rfl (by kernel_rfl) rfl) ?_
  refine rl_gv rfl rfl rfl rfl rfl (ov_load rfl Try.underlying2 rfl rfl (by exact (hH4.own).cellL 1 rfl (off := 4) rfl)) ?_
  refine rl_gv rfl rfl rfl rfl rfl (ov_lss rfl rfl rfl) <| rl_v rfl rfl rfl (ov_pick_f rfl rfl rfl) <| rl_nil ?_
  first | refine run_cond_dec rfl (fun bad => ?_) (fun bad => ?_) | refine run_cond rfl (fun bad => ?_) (fun bad => ?_)
  ·exfalso; omega
  ·refine run_skip <| run_seq <| run_seq <| run_region <| rl_v rfl rfl rfl (ov_fieldS rfl Try.underlying60 rfl (fo := 0) rfl (by kernel_rfl) rfl) ?_
   refine rl_v rfl rfl rfl (ov_load rfl Try.underlying2 rfl rfl (by exact (hH4.own).cellL 1 rfl (off := 0) rfl)) ?_
   refine rl_v rfl rfl rfl (ov_fieldS rfl Try.underlying60 rfl (fo := 1) rfl (by kernel_rfl) rfl) ?_
   refine rl_v rfl rfl rfl (ov_load rfl Try.underlying2 rfl rfl (by exact (hH4.own).cellL 1 rfl (off := 1) rfl)) ?_
   refine rl_v rfl rfl rfl (ov_add rfl rfl rfl (by omega)) ?_
   refine rl_v rfl rfl rfl (ov_fieldS rfl Try.underlying60 rfl (fo := 2) rfl (by kernel_rfl) rfl) ?_
   refine rl_v rfl rfl rfl (ov_load rfl Try.underlying2 rfl rfl (by exact (hH4.own).cellL 1 rfl (off := 2) rfl)) ?_
   refine rl_v rfl rfl rfl (ov_add rfl rfl rfl (by omega)) ?_
   refine rl_v rfl rfl rfl (ov_fieldS rfl Try.underlying60 rfl (fo := 3) rfl (by kernel_rfl) rfl) ?_
   refine rl_v rfl rfl rfl (ov_load rfl Try.underlying2 rfl rfl (by exact (hH4.own).cellL 1 rfl (off := 3) rfl)) ?_
   refine rl_v rfl rfl rfl (ov_add rfl rfl rfl (by omega)) ?_
   refine rl_v rfl rfl rfl (ov_fieldS rfl Try.underlying60 rfl (fo := 4) rfl (by kernel_rfl) rfl) ?_
   refine rl_v rfl rfl rfl (ov_load rfl Try.underlying2 rfl rfl (by exact (hH4.own).cellL 1 rfl (off := 4) rfl)) ?_
   refine rl_v rfl rfl rfl (ov_add rfl rfl rfl (by omega)) ?_
   refine rl_v rfl rfl rfl (ov_fieldS rfl Try.underlying49 rfl (fo := 0) rfl (by kernel_rfl) rfl) ?_
   refine rl_v rfl rfl rfl (ov_load rfl Try.underlying2 rfl rfl (by exact (show _ = some (iv (X.acct n).cash) from (hH4.own).cellL 0 rfl (off := 0) rfl))) ?_
   refine rl_v rfl rfl rfl (ov_neg rfl rfl (by omega)) ?_
   refine rl_v rfl rfl rfl (ov_max rfl rfl rfl) <| rl_v rfl rfl rfl (ov_neq rfl rfl rfl) <| rl_nil ?_
   first | refine run_cond_dec rfl (fun bad => ?_) (fun bad => ?_) | refine run_cond rfl (fun bad => ?_) (fun bad => ?_)
   ·exfalso; exact bad hsum
   ·have hDi : D.is n := ⟨by omega, by omega⟩
    refine run_skip <| run_seq <| run_region <| rl_v rfl rfl rfl (ov_move rfl rfl) <| rl_v rfl rfl rfl (ov_move rfl rfl) ?_
    refine rl_call callable_31 rfl rfl rfl rfl rfl rfl (account_in hb w.heap.size D [] _ w w34 hH4 hDG n hDi) (fun e43 w44 hp45 => ?_)
    obtain ⟨va, ca, rfl, hra, hH5⟩ := hp45
    refine ⟨_, rfl, ?_⟩
    obtain ⟨aa, pa9, rfl⟩ := hra.val
    obtain ⟨K4, N4, hO6, hK4, hP4⟩ := hH5.open
    refine rl_v rfl rfl rfl (ov_move rfl rfl) <| rl_v rfl rfl rfl (ov_extract rfl rfl (by rfl)) ?_
    refine rl_v rfl rfl rfl (ov_extract rfl rfl (by rfl)) ?_
    refine rl_ow rfl (ow_alloc _ rfl rfl rfl zero_64 rfl hO6) ?_
    rintro _ w46 ⟨b14, rfl, hO47, hs48⟩
    refine rl_ow rfl (ow_storeW rfl rfl (by kernel_rfl) hO47 0 rfl rfl (by rfl) rfl (by rfl)) ?_
    rintro _ w49 ⟨rfl, hO50, hs51⟩
    have hH6 := HAt.puts [some (lch b14 64 [iv (D.acct n).cash, iv (D.acct n).fund, .slice aa D.mn pa9, .bool (D.acct n).out])] hO50 hK4 hP4
    refine rl_v rfl rfl rfl (ov_assign rfl rfl) <| rl_nil <| run_seq <| run_region <| rl_v rfl rfl rfl (ov_move rfl rfl) ?_
    refine rl_call callable_41 rfl rfl rfl rfl rfl rfl (capital_any hb w.heap.size D [] _ w w49 hH6) (fun e52 w53 hp54 => ?_)
    obtain ⟨rfl, hH7⟩ := hp54
    refine ⟨_, rfl, ?_⟩
    refine rl_v rfl rfl rfl (ov_move rfl rfl) <| rl_v rfl rfl rfl (ov_extract rfl rfl (by rfl)) ?_
    refine rl_v rfl rfl rfl (ov_extract rfl rfl (by rfl)) ?_
    refine rl_v rfl rfl rfl (ov_assign rfl rfl) <| rl_v rfl rfl rfl (ov_assign rfl rfl) <| rl_nil <| run_seq <| run_seq <| run_region <| rl_v rfl rfl rfl (ov_move rfl rfl) <| rl_v rfl rfl rfl (ov_neq rfl rfl rfl) <| rl_v rfl rfl rfl (ov_move rfl rfl) ?_
    first | refine rl_noD 131 rfl (fun h => h rfl) ?_ | refine rl_no 131 rfl (fun h => h rfl) ?_
    refine rl_gv rfl rfl rfl rfl rfl (ov_fieldS rfl Try.underlying64 rfl (fo := 3) rfl (by kernel_rfl) rfl) ?_
    refine rl_gv rfl rfl rfl rfl rfl (ov_load rfl Try.underlying4 rfl rfl (by exact (hH7.own).cellL 0 rfl (off := 3) rfl)) ?_
    refine rl_gv rfl rfl rfl rfl rfl (ov_not rfl rfl) <| rl_v rfl rfl rfl (ov_pick_f rfl rfl rfl) <| rl_v rfl rfl rfl (ov_move rfl rfl) ?_
    first | refine rl_noD 136 rfl ((by rw [ow1]; decide)) ?_ | refine rl_no 136 rfl ((by rw [ow1]; decide)) ?_
    refine rl_gv rfl rfl rfl rfl rfl (ov_fieldS rfl Try.underlying64 rfl (fo := 0) rfl (by kernel_rfl) rfl) ?_
    refine rl_gv rfl rfl rfl rfl rfl (ov_load rfl Try.underlying2 rfl rfl (by exact (show _ = some (iv (D.acct n).cash) from (hH7.own).cellL 0 rfl (off := 0) rfl))) ?_
    refine rl_gv rfl rfl rfl rfl rfl (ov_fieldS rfl Try.underlying49 rfl (fo := 0) rfl (by kernel_rfl) rfl) ?_
    refine rl_gv rfl rfl rfl rfl rfl (ov_load rfl Try.underlying2 rfl rfl (by exact (show _ = some (iv (X.acct n).cash) from (hH7.own).cellL 2 rfl (off := 0) rfl))) ?_
    refine rl_gv rfl rfl rfl rfl rfl (ov_max rfl rfl rfl) <| rl_gv rfl rfl rfl rfl rfl (ov_neq rfl rfl rfl) <| rl_v rfl rfl rfl (ov_pick_f rfl rfl rfl) <| rl_v rfl rfl rfl (ov_move rfl rfl) ?_
    first | refine rl_noD 144 rfl (fun h => h ow2) ?_ | refine rl_no 144 rfl (fun h => h ow2) ?_
    refine rl_gv rfl rfl rfl rfl rfl (ov_fieldS rfl Try.underlying64 rfl (fo := 1) rfl (by kernel_rfl) rfl) ?_
    refine rl_gv rfl rfl rfl rfl rfl (ov_load rfl Try.underlying2 rfl rfl (by exact (show _ = some (iv (D.acct n).fund) from (hH7.own).cellL 0 rfl (off := 1) rfl))) ?_
    refine rl_gv rfl rfl rfl rfl rfl (ov_fieldS rfl Try.underlying49 rfl (fo := 1) rfl (by kernel_rfl) rfl) ?_
    refine rl_gv rfl rfl rfl rfl rfl (ov_load rfl Try.underlying2 rfl rfl (by exact (show _ = some (iv (X.acct n).fund) from (hH7.own).cellL 2 rfl (off := 1) rfl))) ?_
    refine rl_gv rfl rfl rfl rfl rfl (ov_fieldS rfl Try.underlying60 rfl (fo := 0) rfl (by kernel_rfl) rfl) ?_
    refine rl_gv rfl rfl rfl rfl rfl (ov_load rfl Try.underlying2 rfl rfl (by exact (hH7.own).cellL 3 rfl (off := 0) rfl)) ?_
    refine rl_gv rfl rfl rfl rfl rfl (ov_sub rfl rfl rfl (by omega)) ?_
    refine rl_gv rfl rfl rfl rfl rfl (ov_neq rfl rfl rfl) <| rl_v rfl rfl rfl (ov_pick_f rfl rfl rfl) <| rl_v rfl rfl rfl (ov_move rfl rfl) ?_
    first | refine rl_noD 154 rfl (fun h => h ow3) ?_ | refine rl_no 154 rfl (fun h => h ow3) ?_
    refine rl_gv rfl rfl rfl rfl rfl (ov_move rfl rfl) <| rl_gv rfl rfl rfl rfl rfl (ov_fieldS rfl Try.underlying34 rfl (fo := 9) rfl (by kernel_rfl) rfl) ?_
    refine rl_gv rfl rfl rfl rfl rfl (ov_load rfl Try.underlying2 rfl rfl (by exact (show _ = some (iv X.cap) from (hH7.own).cellL 4 rfl (off := 9) rfl))) ?_
    refine rl_gv rfl rfl rfl rfl rfl (ov_fieldS rfl Try.underlying60 rfl (fo := 1) rfl (by kernel_rfl) rfl) ?_
    refine rl_gv rfl rfl rfl rfl rfl (ov_load rfl Try.underlying2 rfl rfl (by exact (hH7.own).cellL 3 rfl (off := 1) rfl)) ?_
    refine rl_gv rfl rfl rfl rfl rfl (ov_sub rfl rfl rfl (by omega)) ?_
    refine rl_gv rfl rfl rfl rfl rfl (ov_neq rfl rfl rfl) <| rl_v rfl rfl rfl (ov_pick_f rfl rfl rfl) <| rl_nil ?_
    first | refine run_cond_dec rfl (fun bad => ?_) (fun bad => ?_) | refine run_cond rfl (fun bad => ?_) (fun bad => ?_)
    ·exfalso; exact bad hFc
    ·have hs6 : TN.Sublist (some (lch b14 64 [iv (D.acct n).cash, iv (D.acct n).fund, .slice aa D.mn pa9, .bool (D.acct n).out]) :: ca :: some (lch b13 49 (gacL (X.acct n) (G.qa (n - 1)) X.mn (G.qc (n - 1)))) :: some (lch b11 60 (lossV [z1, z2, z3, z4, z5])) :: some (lch b9 34 (ghL X G)) :: RR) := .cons _ (.cons _ (.cons _ (.cons _ (.cons _ hsI))))
     have hs76 : [some (lch b7 25 (cfL mem mon pa2 mon.toNat pc2 ma2 k2 mc2 rate cap))].Sublist (some (lch b14 64 [iv (D.acct n).cash, iv (D.acct n).fund, .slice aa D.mn pa9, .bool (D.acct n).out]) :: ca :: some (lch b13 49 (gacL (X.acct n) (G.qa (n - 1)) X.mn (G.qc (n - 1)))) :: some (lch b11 60 (lossV [z1, z2, z3, z4, z5])) :: some (lch b9 34 (ghL X G)) :: RR) := .cons _ (.cons _ (.cons _ (.cons _ (.cons _ hs7))))
     have hfM : ∀ j : Int, 0 ≤ j → j < X.mem → 0 ≤ (if X.oth n j then (D.ac j).fund else 0) ∧ (if X.oth n j then (D.ac j).fund else 0) ≤ 510000000000000 := fun j j0 j1 => by
      have := hDB.fund j j0 (by omega)
      split <;> omega
     have hcM : ∀ j : Int, 0 ≤ j → j < X.mem → 0 ≤ (if X.oth n j then max 0 (D.ac j).cash else 0) ∧ (if X.oth n j then max 0 (D.ac j).cash else 0) ≤ 510000000000000 := fun j j0 j1 => by
      have := hDB.cash j j0 (by omega)
      split <;> omega
     refine run_skip <| run_seq <| run_region <| rl_v rfl rfl rfl (ov_assign rfl rfl) <| rl_v rfl rfl rfl (ov_assign rfl rfl) <| rl_nil <| run_seq <| run_seq <| run_region <| rl_v rfl rfl rfl (ov_assign rfl rfl) <| rl_nil <| run_block <| Run.keep [7, 8, 9, 10, 11, 14, 16, 18, 19, 20] (F' := [(7, _), (8, _), (9, _), (10, _), (11, _), (14, _), (16, _), (18, _), (19, _), (20, _)]) rfl <| run_loop3 (fun (i : Int) (fu : Int) (ca9 : Int) => [(20, .int .i64 i), (18, .int .i64 fu), (19, .int .i64 ca9)]) [7, 8, 9, 10, 11, 14, 16] (fun (i : Int) (fu : Int) (ca9 : Int) (w55 : World) => (1 ≤ i ∧ i ≤ (X.mem : Int) + 1) ∧ fu = sm (fun j => if X.oth n j then (D.ac j).fund else 0) (i - 1) ∧ ca9 = sm (fun j => if X.oth n j then max 0 (D.ac j).cash else 0) (i - 1) ∧ HAt w.heap.size w w55 hb D [] (some (lch b14 64 [iv (D.acct n).cash, iv (D.acct n).fund, .slice aa D.mn pa9, .bool (D.acct n).out]) :: ca :: some (lch b13 49 (gacL (X.acct n) (G.qa (n - 1)) X.mn (G.qc (n - 1)))) :: some (lch b11 60 (lossV [z1, z2, z3, z4, z5])) :: some (lch b9 34 (ghL X G)) :: RR)) (fun (i : Int) (fu : Int) (ca9 : Int) => ((X.mem : Int) + 1 - i).toNat) (1) (0) (0) ?_ (And.intro (by exact slot_int rfl (by first | omega)) (And.intro (by exact slot_int rfl (by first | omega)) (And.intro (by exact slot_int rfl (by first | omega)) (And.intro rfl (And.intro rfl (And.intro rfl (And.intro rfl (And.intro rfl (And.intro rfl (And.intro rfl trivial)))))))))) ?_
     ·exact ⟨by omega, rfl, rfl, hH7⟩
     intro i fu ca9 w55 hIw55 ih56
     obtain ⟨hi, hfu, hca, hH8⟩ := hIw55
     show Run _ _ _ _ [(20, _), (18, _), (19, _), (7, _), (8, _), (9, _), (10, _), (11, _), (14, _), (16, _)] _ _
     have hfr := sm_fall (f := fun j => if X.oth n j then (D.ac j).fund else 0) (k := i - 1) (M := 510000000000000) (by omega) fun j j0 j1 => hfM j j0 (by omega)
     have hcr := sm_fall (f := fun j => if X.oth n j then max 0 (D.ac j).cash else 0) (k := i - 1) (M := 510000000000000) (by omega) fun j j0 j1 => hcM j j0 (by omega)
     refine run_seq <| run_seq <| run_region <| rl_v rfl rfl rfl (ov_move rfl rfl) <| rl_v rfl rfl rfl (ov_fieldS rfl Try.underlying25 rfl (fo := 0) rfl (by kernel_rfl) rfl) ?_
     refine rl_v rfl rfl rfl (ov_load rfl Try.underlying3 rfl rfl (by exact ((hH8.own).sub hs76).cellL 0 rfl (off := 0) rfl)) ?_
     refine rl_v rfl rfl rfl (ov_leq rfl rfl rfl) <| rl_nil ?_
     first | refine run_cond_dec rfl (fun h1 => ?_) (fun h1 => ?_) | refine run_cond rfl (fun h1 => ?_) (fun h1 => ?_)
     ·have hiX : i ≤ X.mem := by omega
      have hDii : D.is i := ⟨by omega, by omega⟩
      have hsf := sm_succ (fun j => if X.oth n j then (D.ac j).fund else 0) (k := i - 1) (by omega)
      have hsc := sm_succ (fun j => if X.oth n j then max 0 (D.ac j).cash else 0) (k := i - 1) (by omega)
      rw [show i - 1 + 1 = i by omega] at hsf hsc
      refine run_skip <| run_seq <| run_block <| run_seq <| run_region <| rl_v rfl rfl rfl (ov_move rfl rfl) <| rl_v rfl rfl rfl (ov_move rfl rfl) ?_
      refine rl_call callable_31 rfl rfl rfl rfl rfl rfl (account_in hb w.heap.size D [] _ w w55 hH8 hDG i hDii) (fun e57 w58 hp59 => ?_)
      obtain ⟨vb, cb, rfl, hrb, hH9⟩ := hp59
      refine ⟨_, rfl, ?_⟩
      obtain ⟨ab, pb9, rfl⟩ := hrb.val
      obtain ⟨K5, N5, hO7, hK5, hP5⟩ := hH9.open
      refine rl_v rfl rfl rfl (ov_move rfl rfl) <| rl_v rfl rfl rfl (ov_extract rfl rfl (by rfl)) ?_
      refine rl_v rfl rfl rfl (ov_extract rfl rfl (by rfl)) ?_
      refine rl_ow rfl (ow_alloc _ rfl rfl rfl zero_64 rfl hO7) ?_
      rintro _ w60 ⟨b21, rfl, hO61, hs62⟩
      refine rl_ow rfl (ow_storeW rfl rfl (by kernel_rfl) hO61 0 rfl rfl (by rfl) rfl (by rfl)) ?_
      rintro _ w63 ⟨rfl, hO64, hs65⟩
      have hH10 := HAt.puts [some (lch b21 64 [iv (D.acct i).cash, iv (D.acct i).fund, .slice ab D.mn pb9, .bool (D.acct i).out])] hO64 hK5 hP5
      obtain ⟨K6, N6, hO8, hK6, hP6⟩ := hH10.open
      refine rl_v rfl rfl rfl (ov_assign rfl rfl) <| rl_nil <| run_seq <| run_region <| rl_v rfl rfl rfl (ov_fieldS rfl Try.underlying34 rfl (fo := 7) rfl (by kernel_rfl) rfl) ?_
      refine rl_v rfl rfl rfl (ov_load rfl Try.underlying31 rfl rfl (by exact hH10.own.cellL 6 rfl (off := 7) rfl)) ?_
      refine rl_v rfl rfl rfl (ov_move rfl rfl) <| rl_v rfl rfl rfl (ov_sub rfl rfl rfl (by omega)) ?_
      refine rl_v rfl rfl rfl (ov_index rfl Try.underlying31 (by kernel_rfl) (s := 4) rfl rfl ⟨by omega, by omega⟩ (by exact (id ex))) ?_
      refine rl_v rfl rfl rfl (ov_loadE rfl Try.underlying49 rfl (by kernel_rfl) rfl ⟨by omega, by omega⟩ rfl ((rx (hH10.own.sub (.cons _ (.cons _ hs6)))))) ?_
      refine rl_ow rfl (ow_alloc _ rfl rfl rfl zero_49 rfl hO8) ?_
      rintro _ w66 ⟨b23, rfl, hO67, hs68⟩
      refine rl_ow rfl (ow_storeW rfl rfl (by kernel_rfl) hO67 0 rfl rfl (by rfl) rfl (by rfl)) ?_
      rintro _ w69 ⟨rfl, hO70, hs71⟩
      have hH11 := HAt.puts [some (lch b23 49 (gacL (X.acct i) (G.qa (i - 1)) X.mn (G.qc (i - 1))))] hO70 hK6 hP6
      refine rl_nil <| run_seq <| run_seq <| run_region <| rl_v rfl rfl rfl (ov_move rfl rfl) <| rl_v rfl rfl rfl (ov_neq rfl rfl rfl) <| rl_v rfl rfl rfl (ov_move rfl rfl) ?_
      first | refine rl_noD 183 rfl (fun h => h rfl) ?_ | refine rl_no 183 rfl (fun h => h rfl) ?_
      refine rl_gv rfl rfl rfl rfl rfl (ov_fieldS rfl Try.underlying64 rfl (fo := 2) rfl (by kernel_rfl) rfl) ?_
      refine rl_gv rfl rfl rfl rfl rfl (ov_load rfl Try.underlying22 rfl rfl (by exact (hH11.own).cellL 1 rfl (off := 2) rfl)) ?_
      refine rl_gv rfl rfl rfl rfl rfl (ov_len rfl Try.underlying22 rfl) <| rl_gv rfl rfl rfl rfl rfl (ov_fieldS rfl Try.underlying25 rfl (fo := 1) rfl (by kernel_rfl) rfl) ?_
      refine rl_gv rfl rfl rfl rfl rfl (ov_load rfl Try.underlying3 rfl rfl (by exact ((hH11.own).sub (.cons _ (.cons _ (.cons _ hs76)))).cellL 0 rfl (off := 1) rfl)) ?_
      refine rl_gv rfl rfl rfl rfl rfl (ov_neq rfl rfl rfl) <| rl_v rfl rfl rfl (ov_pick_f rfl rfl rfl) <| rl_nil ?_
      first | refine run_cond_dec rfl (fun bad => ?_) (fun bad => ?_) | refine run_cond rfl (fun bad => ?_) (fun bad => ?_)
      ·exfalso; omega
      ·refine run_skip <| run_seq <| run_seq <| run_region <| rl_v rfl rfl rfl (ov_move rfl rfl) <| rl_v rfl rfl rfl (ov_move rfl rfl) <| rl_v rfl rfl rfl (ov_eql rfl rfl rfl) <| rl_nil ?_
       first | refine run_cond_dec rfl (fun c1 => ?_) (fun c1 => ?_) | refine run_cond rfl (fun c1 => ?_) (fun c1 => ?_)
       ·have hno : ¬ X.oth n (i - 1) := fun h => h.1 (by omega)
        refine run_exit rfl <| run_region <| rl_v rfl rfl rfl (ov_move rfl rfl) <| rl_v rfl rfl rfl (ov_add rfl rfl rfl (by omega)) ?_
        refine rl_v rfl rfl rfl (ov_assign rfl rfl) <| rl_nil ?_
        refine Run.use (ih56 (i + 1) (fu) (ca9) _ ?_ ?_) (And.intro (by exact slot_int rfl (by first | omega)) (And.intro (by exact slot_int rfl (by first | omega)) (And.intro (by exact slot_int rfl (by first | omega)) (And.intro rfl (And.intro rfl (And.intro rfl (And.intro rfl (And.intro rfl (And.intro rfl (And.intro rfl trivial))))))))))
        ·first | omega | (dsimp only; omega)
        ·exact ⟨by omega, by rw [show i + 1 - 1 = i by omega, hsf, if_neg hno, Int.add_zero]; exact hfu, by rw [show i + 1 - 1 = i by omega, hsc, if_neg hno, Int.add_zero]; exact hca, hH11.shed.shed.shed⟩
       ·have hoth := hF.oth (i - 1) (by omega) (by omega) (by omega)
        have hpos := hF.pos (i - 1) (by omega) (by omega) (by omega)
        change 0 ≤ (D.acct i).fund ∧ (D.acct i).fund ≤ (X.acct i).fund ∧ (D.acct i).cash ≤ (X.acct i).cash ∧ min 0 (X.acct i).cash ≤ (D.acct i).cash ∧ ((X.acct i).out = true → (D.acct i).fund = (X.acct i).fund ∧ (D.acct i).cash = (X.acct i).cash) at hoth
        obtain ⟨ho1, ho2, ho3, ho4, ho5⟩ := hoth
        refine run_skip <| run_seq <| run_seq <| run_region_join 236 (.bool (decide (False))) [7, 8, 9, 10, 11, 14, 16, 18, 19, 20, 21, 23] (fun hk72 => ?_) ?_
        ·refine rl_v rfl rfl rfl (ov_fieldS rfl Try.underlying64 rfl (fo := 1) rfl (by kernel_rfl) rfl) ?_
         refine rl_v rfl rfl rfl (ov_load rfl Try.underlying2 rfl rfl (by exact (show _ = some (iv (D.acct i).fund) from (hH11.own).cellL 1 rfl (off := 1) rfl))) ?_
         refine rl_v rfl rfl rfl (ov_lss rfl rfl rfl) <| rl_v rfl rfl rfl (ov_move rfl rfl) ?_
         first | refine rl_noD 197 rfl ((by omega)) ?_ | refine rl_no 197 rfl ((by omega)) ?_
         refine rl_gv rfl rfl rfl rfl rfl (ov_fieldS rfl Try.underlying64 rfl (fo := 1) rfl (by kernel_rfl) rfl) ?_
         refine rl_gv rfl rfl rfl rfl rfl (ov_load rfl Try.underlying2 rfl rfl (by exact (show _ = some (iv (D.acct i).fund) from (hH11.own).cellL 1 rfl (off := 1) rfl))) ?_
         refine rl_gv rfl rfl rfl rfl rfl (ov_fieldS rfl Try.underlying49 rfl (fo := 1) rfl (by kernel_rfl) rfl) ?_
         refine rl_gv rfl rfl rfl rfl rfl (ov_load rfl Try.underlying2 rfl rfl (by exact (show _ = some (iv (X.acct i).fund) from (hH11.own).cellL 0 rfl (off := 1) rfl))) ?_
         refine rl_gv rfl rfl rfl rfl rfl (ov_gtr rfl rfl rfl) <| rl_v rfl rfl rfl (ov_pick_f rfl rfl rfl) <| rl_v rfl rfl rfl (ov_move rfl rfl) ?_
         first | refine rl_noD 204 rfl ((by omega)) ?_ | refine rl_no 204 rfl ((by omega)) ?_
         refine rl_gv rfl rfl rfl rfl rfl (ov_fieldS rfl Try.underlying64 rfl (fo := 0) rfl (by kernel_rfl) rfl) ?_
         refine rl_gv rfl rfl rfl rfl rfl (ov_load rfl Try.underlying2 rfl rfl (by exact (show _ = some (iv (D.acct i).cash) from (hH11.own).cellL 1 rfl (off := 0) rfl))) ?_
         refine rl_gv rfl rfl rfl rfl rfl (ov_fieldS rfl Try.underlying49 rfl (fo := 0) rfl (by kernel_rfl) rfl) ?_
         refine rl_gv rfl rfl rfl rfl rfl (ov_load rfl Try.underlying2 rfl rfl (by exact (show _ = some (iv (X.acct i).cash) from (hH11.own).cellL 0 rfl (off := 0) rfl))) ?_
         refine rl_gv rfl rfl rfl rfl rfl (ov_gtr rfl rfl rfl) <| rl_v rfl rfl rfl (ov_pick_f rfl rfl rfl) <| rl_v rfl rfl rfl (ov_move rfl rfl) ?_
         first | refine rl_noD 211 rfl ((by omega)) ?_ | refine rl_no 211 rfl ((by omega)) ?_
         refine rl_gv rfl rfl rfl rfl rfl (ov_fieldS rfl Try.underlying64 rfl (fo := 0) rfl (by kernel_rfl) rfl) ?_
         refine rl_gv rfl rfl rfl rfl rfl (ov_load rfl Try.underlying2 rfl rfl (by exact (show _ = some (iv (D.acct i).cash) from (hH11.own).cellL 1 rfl (off := 0) rfl))) ?_
         refine rl_gv rfl rfl rfl rfl rfl (ov_fieldS rfl Try.underlying49 rfl (fo := 0) rfl (by kernel_rfl) rfl) ?_
         refine rl_gv rfl rfl rfl rfl rfl (ov_load rfl Try.underlying2 rfl rfl (by exact (show _ = some (iv (X.acct i).cash) from (hH11.own).cellL 0 rfl (off := 0) rfl))) ?_
         refine rl_gv rfl rfl rfl rfl rfl (ov_min rfl rfl rfl) <| rl_gv rfl rfl rfl rfl rfl (ov_lss rfl rfl rfl) <| rl_v rfl rfl rfl (ov_pick_f rfl rfl rfl) <| rl_v rfl rfl rfl (ov_move rfl rfl) ?_
         first | refine rl_noD 219 rfl ((by omega)) ?_ | refine rl_no 219 rfl ((by omega)) ?_
         refine rl_gv rfl rfl rfl rfl rfl (ov_fieldS rfl Try.underlying49 rfl (fo := 3) rfl (by kernel_rfl) rfl) ?_
         refine rl_gv rfl rfl rfl rfl rfl (ov_load rfl Try.underlying4 rfl rfl (by exact (show _ = some (.bool (X.acct i).out) from (hH11.own).cellL 0 rfl (off := 3) rfl))) ?_
         refine rl_gv rfl rfl rfl rfl rfl (ov_move rfl rfl) ?_
         first | refine rl_split_dec 222 rfl (fun o2 => ?_) (fun o2 => ?_) | refine rl_split 222 rfl (fun o2 => ?_) (fun o2 => ?_)
         ·refine rl_gv rfl rfl rfl rfl rfl (ov_fieldS rfl Try.underlying64 rfl (fo := 1) rfl (by kernel_rfl) rfl) ?_
          refine rl_gv rfl rfl rfl rfl rfl (ov_load rfl Try.underlying2 rfl rfl (by exact (show _ = some (iv (D.acct i).fund) from (hH11.own).cellL 1 rfl (off := 1) rfl))) ?_
          refine rl_gv rfl rfl rfl rfl rfl (ov_fieldS rfl Try.underlying49 rfl (fo := 1) rfl (by kernel_rfl) rfl) ?_
          refine rl_gv rfl rfl rfl rfl rfl (ov_load rfl Try.underlying2 rfl rfl (by exact (show _ = some (iv (X.acct i).fund) from (hH11.own).cellL 0 rfl (off := 1) rfl))) ?_
          refine rl_gv rfl rfl rfl rfl rfl (ov_neq rfl rfl rfl) <| rl_gv rfl rfl rfl rfl rfl (ov_move rfl rfl) ?_
          first | refine rl_split_dec 228 rfl (fun o3 => ?_) (fun o3 => ?_) | refine rl_split 228 rfl (fun o3 => ?_) (fun o3 => ?_)
          ·refine rl_gskip rfl rfl rfl rfl rfl rfl <| rl_gskip rfl rfl rfl rfl rfl rfl <| rl_gskip rfl rfl rfl rfl rfl rfl <| rl_gskip rfl rfl rfl rfl rfl rfl <| rl_gskip rfl rfl rfl rfl rfl rfl <| rl_gv rfl rfl rfl rfl rfl (ov_pick_t rfl rfl rfl) <| rl_gv rfl rfl rfl rfl rfl (ov_pick_t rfl rfl rfl) <| rl_v rfl rfl rfl (ov_pick_f rfl rfl rfl) ?_
           refine rl_nil (hk72 _ (jbt rfl (by exact absurd (ho5 ‹_›).1 ‹_›)) (And.intro rfl (And.intro rfl (And.intro rfl (And.intro rfl (And.intro rfl (And.intro rfl (And.intro rfl (And.intro rfl (And.intro rfl (And.intro rfl (And.intro rfl (And.intro rfl trivial)))))))))))))
          ·refine rl_gv rfl rfl rfl rfl rfl (ov_fieldS rfl Try.underlying64 rfl (fo := 0) rfl (by kernel_rfl) rfl) ?_
           refine rl_gv rfl rfl rfl rfl rfl (ov_load rfl Try.underlying2 rfl rfl (by exact (show _ = some (iv (D.acct i).cash) from (hH11.own).cellL 1 rfl (off := 0) rfl))) ?_
           refine rl_gv rfl rfl rfl rfl rfl (ov_fieldS rfl Try.underlying49 rfl (fo := 0) rfl (by kernel_rfl) rfl) ?_
           refine rl_gv rfl rfl rfl rfl rfl (ov_load rfl Try.underlying2 rfl rfl (by exact (show _ = some (iv (X.acct i).cash) from (hH11.own).cellL 0 rfl (off := 0) rfl))) ?_
           refine rl_gv rfl rfl rfl rfl rfl (ov_neq rfl rfl rfl) <| rl_gv rfl rfl rfl rfl rfl (ov_pick_f rfl rfl rfl) <| rl_gv rfl rfl rfl rfl rfl (ov_pick_t rfl rfl rfl) <| rl_v rfl rfl rfl (ov_pick_f rfl rfl rfl) ?_
           refine rl_nil (hk72 _ (jbd rfl (by exact ⟨fun h => h (ho5 ‹_›).2, False.elim⟩)) (And.intro rfl (And.intro rfl (And.intro rfl (And.intro rfl (And.intro rfl (And.intro rfl (And.intro rfl (And.intro rfl (And.intro rfl (And.intro rfl (And.intro rfl (And.intro rfl trivial)))))))))))))
         ·refine rl_gskip rfl rfl rfl rfl rfl rfl <| rl_gskip rfl rfl rfl rfl rfl rfl <| rl_gskip rfl rfl rfl rfl rfl rfl <| rl_gskip rfl rfl rfl rfl rfl rfl <| rl_gskip rfl rfl rfl rfl rfl rfl <| rl_gskip rfl rfl rfl rfl rfl rfl <| rl_gundef rfl rfl rfl rfl rfl <| rl_gundef rfl rfl rfl rfl rfl <| rl_gundef rfl rfl rfl rfl rfl <| rl_gundef rfl rfl rfl rfl rfl <| rl_gundef rfl rfl rfl rfl rfl <| rl_gskip rfl rfl rfl rfl rfl rfl <| rl_gv rfl rfl rfl rfl rfl (ov_pick_f rfl rfl rfl) <| rl_v rfl rfl rfl (ov_pick_f rfl rfl rfl) ?_
          refine rl_nil (hk72 _ (jbf rfl not_false) (And.intro rfl (And.intro rfl (And.intro rfl (And.intro rfl (And.intro rfl (And.intro rfl (And.intro rfl (And.intro rfl (And.intro rfl (And.intro rfl (And.intro rfl (And.intro rfl trivial)))))))))))))
        ·show Run _ _ _ _ [(236, _), (7, _), (8, _), (9, _), (10, _), (11, _), (14, _), (16, _), (18, _), (19, _), (20, _), (21, _), (23, _)] _ _
         first | refine run_cond_dec rfl (fun bad => ?_) (fun bad => ?_) | refine run_cond rfl (fun bad => ?_) (fun bad => ?_)
         ·exfalso; exact bad
         ·refine run_skip <| run_seq <| run_seq <| run_region <| rl_v rfl rfl rfl (ov_fieldS rfl Try.underlying49 rfl (fo := 3) rfl (by kernel_rfl) rfl) ?_
          refine rl_v rfl rfl rfl (ov_load rfl Try.underlying4 rfl rfl (by exact (hH11.own).cellL 0 rfl rfl)) ?_
          refine rl_v rfl rfl rfl (ov_not rfl rfl) <| rl_nil <| Run.keep [7, 8, 9, 10, 11, 14, 16, 18, 19, 20, 21, 23, 239] (F' := [(7, _), (8, _), (9, _), (10, _), (11, _), (14, _), (16, _), (18, _), (19, _), (20, _), (21, _), (23, _), (239, _)]) rfl <| run_join2 (fun (fu9 : Int) (ca8 : Int) => [(18, .int .i64 fu9), (19, .int .i64 ca8)]) [7, 8, 9, 10, 11, 14, 16, 20, 21, 23] (fun (fu9 : Int) (ca8 : Int) (w75 : World) => fu9 = sm (fun j => if X.oth n j then (D.ac j).fund else 0) i ∧ ca8 = sm (fun j => if X.oth n j then max 0 (D.ac j).cash else 0) i ∧ HAt w.heap.size w w75 hb D [] (some (lch b23 49 (gacL (X.acct i) (G.qa (i - 1)) X.mn (G.qc (i - 1)))) :: some (lch b21 64 [iv (D.acct i).cash, iv (D.acct i).fund, .slice ab D.mn pb9, .bool (D.acct i).out]) :: cb :: some (lch b14 64 [iv (D.acct n).cash, iv (D.acct n).fund, .slice aa D.mn pa9, .bool (D.acct n).out]) :: ca :: some (lch b13 49 (gacL (X.acct n) (G.qa (n - 1)) X.mn (G.qc (n - 1)))) :: some (lch b11 60 (lossV [z1, z2, z3, z4, z5])) :: some (lch b9 34 (ghL X G)) :: RR)) (fun hk76 => ?_) ?_
          ·first | refine run_cond_dec rfl (fun o4 => ?_) (fun o4 => ?_) | refine run_cond rfl (fun o4 => ?_) (fun o4 => ?_)
           ·have ho4' : (X.acct i).out = false := by simpa using o4
            have hyes : X.oth n (i - 1) := ⟨by omega, ho4'⟩
            have hDc := hDB.cash (i - 1) (by omega) (by omega)
            have hDf := hDB.fund (i - 1) (by omega) (by omega)
            change (D.acct i).cash.natAbs ≤ _ at hDc
            change 0 ≤ (D.acct i).fund ∧ (D.acct i).fund ≤ _ at hDf
            refine run_seq <| run_region <| rl_v rfl rfl rfl (ov_move rfl rfl) <| rl_v rfl rfl rfl (ov_fieldS rfl Try.underlying64 rfl (fo := 1) rfl (by kernel_rfl) rfl) ?_
            refine rl_v rfl rfl rfl (ov_load rfl Try.underlying2 rfl rfl (by exact (show _ = some (iv (D.acct i).fund) from (hH11.own).cellL 1 rfl (off := 1) rfl))) ?_
            refine rl_v rfl rfl rfl (ov_add rfl rfl rfl (by omega)) ?_
            refine rl_v rfl rfl rfl (ov_assign rfl rfl) <| rl_nil <| run_region <| rl_v rfl rfl rfl (ov_move rfl rfl) <| rl_v rfl rfl rfl (ov_fieldS rfl Try.underlying64 rfl (fo := 0) rfl (by kernel_rfl) rfl) ?_
            refine rl_v rfl rfl rfl (ov_load rfl Try.underlying2 rfl rfl (by exact (show _ = some (iv (D.acct i).cash) from (hH11.own).cellL 1 rfl (off := 0) rfl))) ?_
            refine rl_v rfl rfl rfl (ov_max rfl rfl rfl) <| rl_v rfl rfl rfl (ov_add rfl rfl rfl (by omega)) ?_
            refine rl_v rfl rfl rfl (ov_assign rfl rfl) <| rl_nil ?_
            refine Run.use (hk76 (fu + (D.acct i).fund) (ca9 + max 0 (D.acct i).cash) _ ?_) (And.intro (by exact slot_int rfl (by first | omega)) (And.intro (by exact slot_int rfl (by first | omega)) (And.intro rfl (And.intro rfl (And.intro rfl (And.intro rfl (And.intro rfl (And.intro rfl (And.intro rfl (And.intro rfl (And.intro rfl (And.intro rfl trivial))))))))))))
            exact ⟨by rw [hsf, if_pos hyes, hfu]; rfl, by rw [hsc, if_pos hyes, hca]; rfl, hH11⟩
           ·have hno : ¬ X.oth n (i - 1) := fun h => by have h2 := h.2; change (X.acct i).out = false at h2; rw [h2] at o4; cases o4
            refine run_skip ?_
            refine Run.use (hk76 (fu) (ca9) _ ?_) (And.intro (by exact slot_int rfl (by first | omega)) (And.intro (by exact slot_int rfl (by first | omega)) (And.intro rfl (And.intro rfl (And.intro rfl (And.intro rfl (And.intro rfl (And.intro rfl (And.intro rfl (And.intro rfl (And.intro rfl (And.intro rfl trivial))))))))))))
            exact ⟨by rw [hsf, if_neg hno, Int.add_zero]; exact hfu, by rw [hsc, if_neg hno, Int.add_zero]; exact hca, hH11⟩
          ·intro fu9 ca8 w75 hJw75
           obtain ⟨hfu9, hca8, hH12⟩ := hJw75
           show Run _ _ _ _ [(18, _), (19, _), (7, _), (8, _), (9, _), (10, _), (11, _), (14, _), (16, _), (20, _), (21, _), (23, _)] _ _
           refine run_seq <| run_region <| rl_v rfl rfl rfl (ov_assign rfl rfl) <| rl_nil <| run_block <| Run.keep [7, 8, 9, 10, 11, 14, 16, 18, 19, 20, 21, 23, 24] (F' := [(7, _), (8, _), (9, _), (10, _), (11, _), (14, _), (16, _), (18, _), (19, _), (20, _), (21, _), (23, _), (24, _)]) rfl <| run_loop1 (fun (m : Int) => [(24, .int .i64 m)]) [7, 8, 9, 10, 11, 14, 16, 18, 19, 20, 21, 23] (fun (m : Int) (w77 : World) => (0 ≤ m ∧ m ≤ mon) ∧ HAt w.heap.size w w77 hb D [] (some (lch b23 49 (gacL (X.acct i) (G.qa (i - 1)) X.mn (G.qc (i - 1)))) :: some (lch b21 64 [iv (D.acct i).cash, iv (D.acct i).fund, .slice ab D.mn pb9, .bool (D.acct i).out]) :: cb :: some (lch b14 64 [iv (D.acct n).cash, iv (D.acct n).fund, .slice aa D.mn pa9, .bool (D.acct n).out]) :: ca :: some (lch b13 49 (gacL (X.acct n) (G.qa (n - 1)) X.mn (G.qc (n - 1)))) :: some (lch b11 60 (lossV [z1, z2, z3, z4, z5])) :: some (lch b9 34 (ghL X G)) :: RR)) (fun (m : Int) => (mon - m).toNat) (0) ?_ (And.intro (by exact slot_int rfl (by first | omega)) (And.intro rfl (And.intro rfl (And.intro rfl (And.intro rfl (And.intro rfl (And.intro rfl (And.intro rfl (And.intro rfl (And.intro rfl (And.intro rfl (And.intro rfl (And.intro rfl trivial))))))))))))) ?_
           ·exact ⟨by omega, hH12⟩
           intro m w77 hIw77 ih78
           obtain ⟨hm, hH13⟩ := hIw77
           show Run _ _ _ _ [(24, _), (7, _), (8, _), (9, _), (10, _), (11, _), (14, _), (16, _), (18, _), (19, _), (20, _), (21, _), (23, _)] _ _
           refine run_seq <| run_seq <| run_region <| rl_v rfl rfl rfl (ov_move rfl rfl) <| rl_v rfl rfl rfl (ov_fieldS rfl Try.underlying25 rfl (fo := 1) rfl (by kernel_rfl) rfl) ?_
           refine rl_v rfl rfl rfl (ov_load rfl Try.underlying3 rfl rfl (by exact ((hH13.own).sub (.cons _ (.cons _ (.cons _ hs76)))).cellL 0 rfl (off := 1) rfl)) ?_
           refine rl_v rfl rfl rfl (ov_lss rfl rfl rfl) <| rl_nil ?_
           first | refine run_cond_dec rfl (fun h2 => ?_) (fun h2 => ?_) | refine run_cond rfl (fun h2 => ?_) (fun h2 => ?_)
           ·obtain ⟨qb, qo, eq, rq⟩ := (srcRow hrb (k := 2) rfl).at (hH13.own) (by omega)
            obtain ⟨ub, uo, eu, ru⟩ := (hI.qv (i - 1) (by omega) (by omega)).at ((hH13.own).sub (.cons _ (.cons _ (.cons _ hs6)))) (by omega)
            have hpm := hpos m hm.1 (by omega)
            change (0 ≤ (X.acct i).pos m → 0 ≤ (D.acct i).pos m) ∧ ((X.acct i).pos m ≤ 0 → (D.acct i).pos m ≤ 0) at hpm
            refine run_skip <| run_seq <| run_block <| run_seq <| run_region_join 284 (.bool (decide (False))) [7, 8, 9, 10, 11, 14, 16, 18, 19, 20, 21, 23, 24] (fun hk79 => ?_) ?_
            ·refine rl_v rfl rfl rfl (ov_fieldS rfl Try.underlying64 rfl (fo := 2) rfl (by kernel_rfl) rfl) ?_
             refine rl_v rfl rfl rfl (ov_load rfl Try.underlying22 rfl rfl (by exact (hH13.own).cellL 1 rfl (off := 2) rfl)) ?_
             refine rl_v rfl rfl rfl (ov_move rfl rfl) <| rl_v rfl rfl rfl (ov_index1 rfl Try.underlying22 (by kernel_rfl) rfl rfl ⟨by omega, by omega⟩ (by exact (id eq))) ?_
             refine rl_v rfl rfl rfl (ov_load rfl Try.underlying2 rfl rfl (by exact (show _ = some (iv ((D.acct i).pos m)) from rq (hH13.own) m hm.1 (by omega)))) ?_
             refine rl_v rfl rfl rfl (ov_gtr rfl rfl rfl) <| rl_v rfl rfl rfl (ov_move rfl rfl) ?_
             first | refine rl_split_dec 261 rfl (fun p1 => ?_) (fun p1 => ?_) | refine rl_split 261 rfl (fun p1 => ?_) (fun p1 => ?_)
             ·refine rl_gv rfl rfl rfl rfl rfl (ov_fieldS rfl Try.underlying49 rfl (fo := 2) rfl (by kernel_rfl) rfl) ?_
              refine rl_gv rfl rfl rfl rfl rfl (ov_load rfl Try.underlying22 rfl rfl (by exact (hH13.own).cellL 0 rfl (off := 2) rfl)) ?_
              refine rl_gv rfl rfl rfl rfl rfl (ov_move rfl rfl) <| rl_gv rfl rfl rfl rfl rfl (ov_index1 rfl Try.underlying22 (by kernel_rfl) rfl rfl ⟨by omega, by omega⟩ (by exact (id eu))) ?_
              refine rl_gv rfl rfl rfl rfl rfl (ov_load rfl Try.underlying2 rfl rfl (by exact (show _ = some (iv ((X.acct i).pos m)) from ru ((hH13.own).sub (.cons _ (.cons _ (.cons _ hs6)))) m hm.1 (by omega)))) ?_
              refine rl_gv rfl rfl rfl rfl rfl (ov_leq rfl rfl rfl) <| rl_v rfl rfl rfl (ov_pick_t rfl rfl rfl) <| rl_v rfl rfl rfl (ov_move rfl rfl) ?_
              first | refine rl_split_dec 269 rfl (fun p2 => ?_) (fun p2 => ?_) | refine rl_split 269 rfl (fun p2 => ?_) (fun p2 => ?_)
              ·refine rl_gskip rfl rfl rfl rfl rfl rfl <| rl_gskip rfl rfl rfl rfl rfl rfl <| rl_gskip rfl rfl rfl rfl rfl rfl <| rl_gskip rfl rfl rfl rfl rfl rfl <| rl_gskip rfl rfl rfl rfl rfl rfl <| rl_gskip rfl rfl rfl rfl rfl rfl <| rl_gskip rfl rfl rfl rfl rfl rfl <| rl_gundef rfl rfl rfl rfl rfl <| rl_gundef rfl rfl rfl rfl rfl <| rl_gundef rfl rfl rfl rfl rfl <| rl_gundef rfl rfl rfl rfl rfl <| rl_gundef rfl rfl rfl rfl rfl <| rl_gundef rfl rfl rfl rfl rfl <| rl_gskip rfl rfl rfl rfl rfl rfl <| rl_v rfl rfl rfl (ov_pick_t rfl rfl rfl) ?_
               refine rl_nil (hk79 _ (jbt rfl (by omega)) (And.intro rfl (And.intro rfl (And.intro rfl (And.intro rfl (And.intro rfl (And.intro rfl (And.intro rfl (And.intro rfl (And.intro rfl (And.intro rfl (And.intro rfl (And.intro rfl (And.intro rfl trivial))))))))))))))
              ·refine rl_gv rfl rfl rfl rfl rfl (ov_fieldS rfl Try.underlying64 rfl (fo := 2) rfl (by kernel_rfl) rfl) ?_
               refine rl_gv rfl rfl rfl rfl rfl (ov_load rfl Try.underlying22 rfl rfl (by exact (hH13.own).cellL 1 rfl (off := 2) rfl)) ?_
               refine rl_gv rfl rfl rfl rfl rfl (ov_move rfl rfl) <| rl_gv rfl rfl rfl rfl rfl (ov_index1 rfl Try.underlying22 (by kernel_rfl) rfl rfl ⟨by omega, by omega⟩ (by exact (id eq))) ?_
               refine rl_gv rfl rfl rfl rfl rfl (ov_load rfl Try.underlying2 rfl rfl (by exact (show _ = some (iv ((D.acct i).pos m)) from rq (hH13.own) m hm.1 (by omega)))) ?_
               refine rl_gv rfl rfl rfl rfl rfl (ov_lss rfl rfl rfl) <| rl_gv rfl rfl rfl rfl rfl (ov_move rfl rfl) ?_
               first | refine rl_split_dec 276 rfl (fun p3 => ?_) (fun p3 => ?_) | refine rl_split 276 rfl (fun p3 => ?_) (fun p3 => ?_)
               ·refine rl_gv rfl rfl rfl rfl rfl (ov_fieldS rfl Try.underlying49 rfl (fo := 2) rfl (by kernel_rfl) rfl) ?_
                refine rl_gv rfl rfl rfl rfl rfl (ov_load rfl Try.underlying22 rfl rfl (by exact (hH13.own).cellL 0 rfl (off := 2) rfl)) ?_
                refine rl_gv rfl rfl rfl rfl rfl (ov_move rfl rfl) <| rl_gv rfl rfl rfl rfl rfl (ov_index1 rfl Try.underlying22 (by kernel_rfl) rfl rfl ⟨by omega, by omega⟩ (by exact (id eu))) ?_
                refine rl_gv rfl rfl rfl rfl rfl (ov_load rfl Try.underlying2 rfl rfl (by exact (show _ = some (iv ((X.acct i).pos m)) from ru ((hH13.own).sub (.cons _ (.cons _ (.cons _ hs6)))) m hm.1 (by omega)))) ?_
                refine rl_gv rfl rfl rfl rfl rfl (ov_geq rfl rfl rfl) <| rl_gv rfl rfl rfl rfl rfl (ov_pick_t rfl rfl rfl) <| rl_v rfl rfl rfl (ov_pick_f rfl rfl rfl) ?_
                refine rl_nil (hk79 _ (jbd rfl (by omega)) (And.intro rfl (And.intro rfl (And.intro rfl (And.intro rfl (And.intro rfl (And.intro rfl (And.intro rfl (And.intro rfl (And.intro rfl (And.intro rfl (And.intro rfl (And.intro rfl (And.intro rfl trivial))))))))))))))
               ·refine rl_gskip rfl rfl rfl rfl rfl rfl <| rl_gskip rfl rfl rfl rfl rfl rfl <| rl_gskip rfl rfl rfl rfl rfl rfl <| rl_gskip rfl rfl rfl rfl rfl rfl <| rl_gskip rfl rfl rfl rfl rfl rfl <| rl_gskip rfl rfl rfl rfl rfl rfl <| rl_gv rfl rfl rfl rfl rfl (ov_pick_f rfl rfl rfl) <| rl_v rfl rfl rfl (ov_pick_f rfl rfl rfl) ?_
                refine rl_nil (hk79 _ (jbf rfl not_false) (And.intro rfl (And.intro rfl (And.intro rfl (And.intro rfl (And.intro rfl (And.intro rfl (And.intro rfl (And.intro rfl (And.intro rfl (And.intro rfl (And.intro rfl (And.intro rfl (And.intro rfl trivial))))))))))))))
             ·refine rl_gskip rfl rfl rfl rfl rfl rfl <| rl_gskip rfl rfl rfl rfl rfl rfl <| rl_gskip rfl rfl rfl rfl rfl rfl <| rl_gskip rfl rfl rfl rfl rfl rfl <| rl_gskip rfl rfl rfl rfl rfl rfl <| rl_gskip rfl rfl rfl rfl rfl rfl <| rl_v rfl rfl rfl (ov_pick_f rfl rfl rfl) <| rl_v rfl rfl rfl (ov_move rfl rfl) <| rl_gv rfl rfl rfl rfl rfl (ov_fieldS rfl Try.underlying64 rfl (fo := 2) rfl (by kernel_rfl) rfl) ?_
              refine rl_gv rfl rfl rfl rfl rfl (ov_load rfl Try.underlying22 rfl rfl (by exact (hH13.own).cellL 1 rfl (off := 2) rfl)) ?_
              refine rl_gv rfl rfl rfl rfl rfl (ov_move rfl rfl) <| rl_gv rfl rfl rfl rfl rfl (ov_index1 rfl Try.underlying22 (by kernel_rfl) rfl rfl ⟨by omega, by omega⟩ (by exact (id eq))) ?_
              refine rl_gv rfl rfl rfl rfl rfl (ov_load rfl Try.underlying2 rfl rfl (by exact (show _ = some (iv ((D.acct i).pos m)) from rq (hH13.own) m hm.1 (by omega)))) ?_
              refine rl_gv rfl rfl rfl rfl rfl (ov_lss rfl rfl rfl) <| rl_gv rfl rfl rfl rfl rfl (ov_move rfl rfl) ?_
              first | refine rl_split_dec 276 rfl (fun p4 => ?_) (fun p4 => ?_) | refine rl_split 276 rfl (fun p4 => ?_) (fun p4 => ?_)
              ·refine rl_gv rfl rfl rfl rfl rfl (ov_fieldS rfl Try.underlying49 rfl (fo := 2) rfl (by kernel_rfl) rfl) ?_
               refine rl_gv rfl rfl rfl rfl rfl (ov_load rfl Try.underlying22 rfl rfl (by exact (hH13.own).cellL 0 rfl (off := 2) rfl)) ?_
               refine rl_gv rfl rfl rfl rfl rfl (ov_move rfl rfl) <| rl_gv rfl rfl rfl rfl rfl (ov_index1 rfl Try.underlying22 (by kernel_rfl) rfl rfl ⟨by omega, by omega⟩ (by exact (id eu))) ?_
               refine rl_gv rfl rfl rfl rfl rfl (ov_load rfl Try.underlying2 rfl rfl (by exact (show _ = some (iv ((X.acct i).pos m)) from ru ((hH13.own).sub (.cons _ (.cons _ (.cons _ hs6)))) m hm.1 (by omega)))) ?_
               refine rl_gv rfl rfl rfl rfl rfl (ov_geq rfl rfl rfl) <| rl_gv rfl rfl rfl rfl rfl (ov_pick_t rfl rfl rfl) <| rl_v rfl rfl rfl (ov_pick_f rfl rfl rfl) ?_
               refine rl_nil (hk79 _ (jbd rfl (by exact ⟨fun _ => by omega, False.elim⟩)) (And.intro rfl (And.intro rfl (And.intro rfl (And.intro rfl (And.intro rfl (And.intro rfl (And.intro rfl (And.intro rfl (And.intro rfl (And.intro rfl (And.intro rfl (And.intro rfl (And.intro rfl trivial))))))))))))))
              ·refine rl_gskip rfl rfl rfl rfl rfl rfl <| rl_gskip rfl rfl rfl rfl rfl rfl <| rl_gskip rfl rfl rfl rfl rfl rfl <| rl_gskip rfl rfl rfl rfl rfl rfl <| rl_gskip rfl rfl rfl rfl rfl rfl <| rl_gskip rfl rfl rfl rfl rfl rfl <| rl_gv rfl rfl rfl rfl rfl (ov_pick_f rfl rfl rfl) <| rl_v rfl rfl rfl (ov_pick_f rfl rfl rfl) ?_
               refine rl_nil (hk79 _ (jbf rfl not_false) (And.intro rfl (And.intro rfl (And.intro rfl (And.intro rfl (And.intro rfl (And.intro rfl (And.intro rfl (And.intro rfl (And.intro rfl (And.intro rfl (And.intro rfl (And.intro rfl (And.intro rfl trivial))))))))))))))
            ·show Run _ _ _ _ [(284, _), (7, _), (8, _), (9, _), (10, _), (11, _), (14, _), (16, _), (18, _), (19, _), (20, _), (21, _), (23, _), (24, _)] _ _
             first | refine run_cond_dec rfl (fun bad => ?_) (fun bad => ?_) | refine run_cond rfl (fun bad => ?_) (fun bad => ?_)
             ·exfalso; exact bad
             ·refine run_skip <| run_inBlock <| run_region <| rl_v rfl rfl rfl (ov_move rfl rfl) <| rl_v rfl rfl rfl (ov_add rfl rfl rfl (by omega)) ?_
              refine rl_v rfl rfl rfl (ov_assign rfl rfl) <| rl_nil ?_
              refine Run.use (ih78 (m + 1) _ ?_ ?_) (And.intro (by exact slot_int rfl (by first | omega)) (And.intro rfl (And.intro rfl (And.intro rfl (And.intro rfl (And.intro rfl (And.intro rfl (And.intro rfl (And.intro rfl (And.intro rfl (And.intro rfl (And.intro rfl (And.intro rfl trivial)))))))))))))
              ·first | omega | (dsimp only; omega)
              ·exact ⟨by omega, hH13⟩
           ·refine run_exit rfl <| run_inBlock <| run_region <| rl_v rfl rfl rfl (ov_move rfl rfl) <| rl_v rfl rfl rfl (ov_add rfl rfl rfl (by omega)) ?_
            refine rl_v rfl rfl rfl (ov_assign rfl rfl) <| rl_nil ?_
            refine Run.use (ih56 (i + 1) (fu9) (ca8) _ ?_ ?_) (And.intro (by exact slot_int rfl (by first | omega)) (And.intro (by exact slot_int rfl (by first | omega)) (And.intro (by exact slot_int rfl (by first | omega)) (And.intro rfl (And.intro rfl (And.intro rfl (And.intro rfl (And.intro rfl (And.intro rfl (And.intro rfl trivial))))))))))
            ·first | omega | (dsimp only; omega)
            ·exact ⟨by omega, by rw [show i + 1 - 1 = i by omega]; exact hfu9, by rw [show i + 1 - 1 = i by omega]; exact hca8, hH13.shed.shed.shed⟩
     ·obtain rfl : i = (X.mem : Int) + 1 := by omega
      rw [show (X.mem : Int) + 1 - 1 = (X.mem : Int) by omega] at hfu hca
      have hw1 := hF.w1
      have hw2 := hF.w2
      have hw3 := hF.w3
      have hw4 := hF.w4
      rw [← hfu] at hw3
      rw [← hca] at hw4
      refine run_exit rfl <| run_seq <| run_seq <| run_region_join 337 (.bool (decide (False))) [] (fun hk84 => ?_) ?_
      ·refine rl_v rfl rfl rfl (ov_fieldS rfl Try.underlying60 rfl (fo := 1) rfl (by kernel_rfl) rfl) ?_
       refine rl_v rfl rfl rfl (ov_load rfl Try.underlying2 rfl rfl (by exact (hH8.own).cellL 3 rfl (off := 1) rfl)) ?_
       refine rl_v rfl rfl rfl (ov_fieldS rfl Try.underlying60 rfl (fo := 2) rfl (by kernel_rfl) rfl) ?_
       refine rl_v rfl rfl rfl (ov_load rfl Try.underlying2 rfl rfl (by exact (hH8.own).cellL 3 rfl (off := 2) rfl)) ?_
       refine rl_v rfl rfl rfl (ov_add rfl rfl rfl (by omega)) ?_
       refine rl_v rfl rfl rfl (ov_fieldS rfl Try.underlying60 rfl (fo := 3) rfl (by kernel_rfl) rfl) ?_
       refine rl_v rfl rfl rfl (ov_load rfl Try.underlying2 rfl rfl (by exact (hH8.own).cellL 3 rfl (off := 3) rfl)) ?_
       refine rl_v rfl rfl rfl (ov_add rfl rfl rfl (by omega)) ?_
       refine rl_v rfl rfl rfl (ov_fieldS rfl Try.underlying60 rfl (fo := 4) rfl (by kernel_rfl) rfl) ?_
       refine rl_v rfl rfl rfl (ov_load rfl Try.underlying2 rfl rfl (by exact (hH8.own).cellL 3 rfl (off := 4) rfl)) ?_
       refine rl_v rfl rfl rfl (ov_add rfl rfl rfl (by omega)) ?_
       refine rl_v rfl rfl rfl (ov_gtr rfl rfl rfl) <| rl_v rfl rfl rfl (ov_move rfl rfl) ?_
       first | refine rl_split_dec 297 rfl (fun q1 => ?_) (fun q1 => ?_) | refine rl_split 297 rfl (fun q1 => ?_) (fun q1 => ?_)
       ·refine rl_gv rfl rfl rfl rfl rfl (ov_fieldS rfl Try.underlying64 rfl (fo := 1) rfl (by kernel_rfl) rfl) ?_
        refine rl_gv rfl rfl rfl rfl rfl (ov_load rfl Try.underlying2 rfl rfl (by exact (show _ = some (iv (D.acct n).fund) from (hH8.own).cellL 0 rfl (off := 1) rfl))) ?_
        refine rl_gv rfl rfl rfl rfl rfl (ov_gtr rfl rfl rfl) <| rl_v rfl rfl rfl (ov_pick_t rfl rfl rfl) <| rl_v rfl rfl rfl (ov_move rfl rfl) ?_
        first | refine rl_split_dec 302 rfl (fun q2 => ?_) (fun q2 => ?_) | refine rl_split 302 rfl (fun q2 => ?_) (fun q2 => ?_)
        ·refine rl_gskip rfl rfl rfl rfl rfl rfl <| rl_gskip rfl rfl rfl rfl rfl rfl <| rl_gskip rfl rfl rfl rfl rfl rfl <| rl_gskip rfl rfl rfl rfl rfl rfl <| rl_gskip rfl rfl rfl rfl rfl rfl <| rl_gskip rfl rfl rfl rfl rfl rfl <| rl_gskip rfl rfl rfl rfl rfl rfl <| rl_gskip rfl rfl rfl rfl rfl rfl <| rl_gskip rfl rfl rfl rfl rfl rfl <| rl_gskip rfl rfl rfl rfl rfl rfl <| rl_gundef rfl rfl rfl rfl rfl <| rl_gundef rfl rfl rfl rfl rfl <| rl_gskip rfl rfl rfl rfl rfl rfl <| rl_v rfl rfl rfl (ov_pick_t rfl rfl rfl) <| rl_v rfl rfl rfl (ov_move rfl rfl) <| rl_gskip rfl rfl rfl rfl rfl rfl <| rl_gskip rfl rfl rfl rfl rfl rfl <| rl_gskip rfl rfl rfl rfl rfl rfl <| rl_gskip rfl rfl rfl rfl rfl rfl <| rl_gskip rfl rfl rfl rfl rfl rfl <| rl_gskip rfl rfl rfl rfl rfl rfl <| rl_gskip rfl rfl rfl rfl rfl rfl <| rl_gundef rfl rfl rfl rfl rfl <| rl_gundef rfl rfl rfl rfl rfl <| rl_gskip rfl rfl rfl rfl rfl rfl ?_
         refine rl_v rfl rfl rfl (ov_pick_t rfl rfl rfl) <| rl_v rfl rfl rfl (ov_move rfl rfl) <| rl_gskip rfl rfl rfl rfl rfl rfl <| rl_gskip rfl rfl rfl rfl rfl rfl <| rl_gskip rfl rfl rfl rfl rfl rfl <| rl_gskip rfl rfl rfl rfl rfl rfl <| rl_gundef rfl rfl rfl rfl rfl <| rl_gundef rfl rfl rfl rfl rfl <| rl_gskip rfl rfl rfl rfl rfl rfl <| rl_v rfl rfl rfl (ov_pick_t rfl rfl rfl) ?_
         refine rl_nil (hk84 _ (jbt rfl (by omega)) trivial)
        ·refine rl_gv rfl rfl rfl rfl rfl (ov_fieldS rfl Try.underlying60 rfl (fo := 2) rfl (by kernel_rfl) rfl) ?_
         refine rl_gv rfl rfl rfl rfl rfl (ov_load rfl Try.underlying2 rfl rfl (by exact (hH8.own).cellL 3 rfl (off := 2) rfl)) ?_
         refine rl_gv rfl rfl rfl rfl rfl (ov_fieldS rfl Try.underlying60 rfl (fo := 3) rfl (by kernel_rfl) rfl) ?_
         refine rl_gv rfl rfl rfl rfl rfl (ov_load rfl Try.underlying2 rfl rfl (by exact (hH8.own).cellL 3 rfl (off := 3) rfl)) ?_
         refine rl_gv rfl rfl rfl rfl rfl (ov_add rfl rfl rfl (by omega)) ?_
         refine rl_gv rfl rfl rfl rfl rfl (ov_fieldS rfl Try.underlying60 rfl (fo := 4) rfl (by kernel_rfl) rfl) ?_
         refine rl_gv rfl rfl rfl rfl rfl (ov_load rfl Try.underlying2 rfl rfl (by exact (hH8.own).cellL 3 rfl (off := 4) rfl)) ?_
         refine rl_gv rfl rfl rfl rfl rfl (ov_add rfl rfl rfl (by omega)) ?_
         refine rl_gv rfl rfl rfl rfl rfl (ov_gtr rfl rfl rfl) <| rl_gv rfl rfl rfl rfl rfl (ov_move rfl rfl) ?_
         first | refine rl_split_dec 312 rfl (fun q3 => ?_) (fun q3 => ?_) | refine rl_split 312 rfl (fun q3 => ?_) (fun q3 => ?_)
         ·refine rl_gv rfl rfl rfl rfl rfl (ov_move rfl rfl) <| rl_gv rfl rfl rfl rfl rfl (ov_gtr rfl rfl rfl) <| rl_gv rfl rfl rfl rfl rfl (ov_pick_t rfl rfl rfl) <| rl_v rfl rfl rfl (ov_pick_f rfl rfl rfl) <| rl_v rfl rfl rfl (ov_move rfl rfl) ?_
          first | refine rl_split_dec 317 rfl (fun q4 => ?_) (fun q4 => ?_) | refine rl_split 317 rfl (fun q4 => ?_) (fun q4 => ?_)
          ·refine rl_gskip rfl rfl rfl rfl rfl rfl <| rl_gskip rfl rfl rfl rfl rfl rfl <| rl_gskip rfl rfl rfl rfl rfl rfl <| rl_gskip rfl rfl rfl rfl rfl rfl <| rl_gskip rfl rfl rfl rfl rfl rfl <| rl_gskip rfl rfl rfl rfl rfl rfl <| rl_gskip rfl rfl rfl rfl rfl rfl <| rl_gundef rfl rfl rfl rfl rfl <| rl_gundef rfl rfl rfl rfl rfl <| rl_gskip rfl rfl rfl rfl rfl rfl <| rl_v rfl rfl rfl (ov_pick_t rfl rfl rfl) <| rl_v rfl rfl rfl (ov_move rfl rfl) <| rl_gskip rfl rfl rfl rfl rfl rfl <| rl_gskip rfl rfl rfl rfl rfl rfl <| rl_gskip rfl rfl rfl rfl rfl rfl <| rl_gskip rfl rfl rfl rfl rfl rfl <| rl_gundef rfl rfl rfl rfl rfl <| rl_gundef rfl rfl rfl rfl rfl <| rl_gskip rfl rfl rfl rfl rfl rfl <| rl_v rfl rfl rfl (ov_pick_t rfl rfl rfl) ?_
           refine rl_nil (hk84 _ (jbt rfl (by omega)) trivial)
          ·refine rl_gv rfl rfl rfl rfl rfl (ov_fieldS rfl Try.underlying60 rfl (fo := 3) rfl (by kernel_rfl) rfl) ?_
           refine rl_gv rfl rfl rfl rfl rfl (ov_load rfl Try.underlying2 rfl rfl (by exact (hH8.own).cellL 3 rfl (off := 3) rfl)) ?_
           refine rl_gv rfl rfl rfl rfl rfl (ov_fieldS rfl Try.underlying60 rfl (fo := 4) rfl (by kernel_rfl) rfl) ?_
           refine rl_gv rfl rfl rfl rfl rfl (ov_load rfl Try.underlying2 rfl rfl (by exact (hH8.own).cellL 3 rfl (off := 4) rfl)) ?_
           refine rl_gv rfl rfl rfl rfl rfl (ov_add rfl rfl rfl (by omega)) ?_
           refine rl_gv rfl rfl rfl rfl rfl (ov_gtr rfl rfl rfl) <| rl_gv rfl rfl rfl rfl rfl (ov_move rfl rfl) ?_
           first | refine rl_split_dec 324 rfl (fun q5 => ?_) (fun q5 => ?_) | refine rl_split 324 rfl (fun q5 => ?_) (fun q5 => ?_)
           ·refine rl_gv rfl rfl rfl rfl rfl (ov_move rfl rfl) <| rl_gv rfl rfl rfl rfl rfl (ov_gtr rfl rfl rfl) <| rl_gv rfl rfl rfl rfl rfl (ov_pick_t rfl rfl rfl) <| rl_v rfl rfl rfl (ov_pick_f rfl rfl rfl) <| rl_v rfl rfl rfl (ov_move rfl rfl) ?_
            first | refine rl_split_dec 329 rfl (fun q6 => ?_) (fun q6 => ?_) | refine rl_split 329 rfl (fun q6 => ?_) (fun q6 => ?_)
            ·refine rl_gskip rfl rfl rfl rfl rfl rfl <| rl_gskip rfl rfl rfl rfl rfl rfl <| rl_gskip rfl rfl rfl rfl rfl rfl <| rl_gskip rfl rfl rfl rfl rfl rfl <| rl_gundef rfl rfl rfl rfl rfl <| rl_gundef rfl rfl rfl rfl rfl <| rl_gskip rfl rfl rfl rfl rfl rfl <| rl_v rfl rfl rfl (ov_pick_t rfl rfl rfl) ?_
             refine rl_nil (hk84 _ (jbt rfl (by omega)) trivial)
            ·refine rl_gv rfl rfl rfl rfl rfl (ov_fieldS rfl Try.underlying60 rfl (fo := 4) rfl (by kernel_rfl) rfl) ?_
             refine rl_gv rfl rfl rfl rfl rfl (ov_load rfl Try.underlying2 rfl rfl (by exact (hH8.own).cellL 3 rfl (off := 4) rfl)) ?_
             refine rl_gv rfl rfl rfl rfl rfl (ov_gtr rfl rfl rfl) <| rl_gv rfl rfl rfl rfl rfl (ov_move rfl rfl) ?_
             first | refine rl_split_dec 333 rfl (fun q7 => ?_) (fun q7 => ?_) | refine rl_split 333 rfl (fun q7 => ?_) (fun q7 => ?_)
             ·refine rl_gv rfl rfl rfl rfl rfl (ov_move rfl rfl) <| rl_gv rfl rfl rfl rfl rfl (ov_gtr rfl rfl rfl) <| rl_gv rfl rfl rfl rfl rfl (ov_pick_t rfl rfl rfl) <| rl_v rfl rfl rfl (ov_pick_f rfl rfl rfl) ?_
              refine rl_nil (hk84 _ (jbd rfl (by exact ⟨fun _ => by omega, False.elim⟩)) trivial)
             ·refine rl_gskip rfl rfl rfl rfl rfl rfl <| rl_gskip rfl rfl rfl rfl rfl rfl <| rl_gv rfl rfl rfl rfl rfl (ov_pick_f rfl rfl rfl) <| rl_v rfl rfl rfl (ov_pick_f rfl rfl rfl) ?_
              refine rl_nil (hk84 _ (jbf rfl not_false) trivial)
           ·refine rl_gskip rfl rfl rfl rfl rfl rfl <| rl_gskip rfl rfl rfl rfl rfl rfl <| rl_gv rfl rfl rfl rfl rfl (ov_pick_f rfl rfl rfl) <| rl_v rfl rfl rfl (ov_pick_f rfl rfl rfl) <| rl_v rfl rfl rfl (ov_move rfl rfl) <| rl_gv rfl rfl rfl rfl rfl (ov_fieldS rfl Try.underlying60 rfl (fo := 4) rfl (by kernel_rfl) rfl) ?_
            refine rl_gv rfl rfl rfl rfl rfl (ov_load rfl Try.underlying2 rfl rfl (by exact (hH8.own).cellL 3 rfl (off := 4) rfl)) ?_
            refine rl_gv rfl rfl rfl rfl rfl (ov_gtr rfl rfl rfl) <| rl_gv rfl rfl rfl rfl rfl (ov_move rfl rfl) ?_
            first | refine rl_split_dec 333 rfl (fun q8 => ?_) (fun q8 => ?_) | refine rl_split 333 rfl (fun q8 => ?_) (fun q8 => ?_)
            ·refine rl_gv rfl rfl rfl rfl rfl (ov_move rfl rfl) <| rl_gv rfl rfl rfl rfl rfl (ov_gtr rfl rfl rfl) <| rl_gv rfl rfl rfl rfl rfl (ov_pick_t rfl rfl rfl) <| rl_v rfl rfl rfl (ov_pick_f rfl rfl rfl) ?_
             refine rl_nil (hk84 _ (jbd rfl (by omega)) trivial)
            ·refine rl_gskip rfl rfl rfl rfl rfl rfl <| rl_gskip rfl rfl rfl rfl rfl rfl <| rl_gv rfl rfl rfl rfl rfl (ov_pick_f rfl rfl rfl) <| rl_v rfl rfl rfl (ov_pick_f rfl rfl rfl) ?_
             refine rl_nil (hk84 _ (jbf rfl not_false) trivial)
         ·refine rl_gskip rfl rfl rfl rfl rfl rfl <| rl_gskip rfl rfl rfl rfl rfl rfl <| rl_gv rfl rfl rfl rfl rfl (ov_pick_f rfl rfl rfl) <| rl_v rfl rfl rfl (ov_pick_f rfl rfl rfl) <| rl_v rfl rfl rfl (ov_move rfl rfl) <| rl_gv rfl rfl rfl rfl rfl (ov_fieldS rfl Try.underlying60 rfl (fo := 3) rfl (by kernel_rfl) rfl) ?_
          refine rl_gv rfl rfl rfl rfl rfl (ov_load rfl Try.underlying2 rfl rfl (by exact (hH8.own).cellL 3 rfl (off := 3) rfl)) ?_
          refine rl_gv rfl rfl rfl rfl rfl (ov_fieldS rfl Try.underlying60 rfl (fo := 4) rfl (by kernel_rfl) rfl) ?_
          refine rl_gv rfl rfl rfl rfl rfl (ov_load rfl Try.underlying2 rfl rfl (by exact (hH8.own).cellL 3 rfl (off := 4) rfl)) ?_
          refine rl_gv rfl rfl rfl rfl rfl (ov_add rfl rfl rfl (by omega)) ?_
          refine rl_gv rfl rfl rfl rfl rfl (ov_gtr rfl rfl rfl) <| rl_gv rfl rfl rfl rfl rfl (ov_move rfl rfl) ?_
          first | refine rl_split_dec 324 rfl (fun hg93 => ?_) (fun hg93 => ?_) | refine rl_split 324 rfl (fun hg93 => ?_) (fun hg93 => ?_)
          ·refine rl_gv rfl rfl rfl rfl rfl (ov_move rfl rfl) <| rl_gv rfl rfl rfl rfl rfl (ov_gtr rfl rfl rfl) <| rl_gv rfl rfl rfl rfl rfl (ov_pick_t rfl rfl rfl) <| rl_v rfl rfl rfl (ov_pick_f rfl rfl rfl) <| rl_v rfl rfl rfl (ov_move rfl rfl) ?_
           first | refine rl_split_dec 329 rfl (fun hg94 => ?_) (fun hg94 => ?_) | refine rl_split 329 rfl (fun hg94 => ?_) (fun hg94 => ?_)
           ·refine rl_gskip rfl rfl rfl rfl rfl rfl <| rl_gskip rfl rfl rfl rfl rfl rfl <| rl_gskip rfl rfl rfl rfl rfl rfl <| rl_gskip rfl rfl rfl rfl rfl rfl <| rl_gundef rfl rfl rfl rfl rfl <| rl_gundef rfl rfl rfl rfl rfl <| rl_gskip rfl rfl rfl rfl rfl rfl <| rl_v rfl rfl rfl (ov_pick_t rfl rfl rfl) ?_
            refine rl_nil (hk84 _ (jbt rfl (by omega)) trivial)
           ·refine rl_gv rfl rfl rfl rfl rfl (ov_fieldS rfl Try.underlying60 rfl (fo := 4) rfl (by kernel_rfl) rfl) ?_
            refine rl_gv rfl rfl rfl rfl rfl (ov_load rfl Try.underlying2 rfl rfl (by exact (hH8.own).cellL 3 rfl (off := 4) rfl)) ?_
            refine rl_gv rfl rfl rfl rfl rfl (ov_gtr rfl rfl rfl) <| rl_gv rfl rfl rfl rfl rfl (ov_move rfl rfl) ?_
            first | refine rl_split_dec 333 rfl (fun hg95 => ?_) (fun hg95 => ?_) | refine rl_split 333 rfl (fun hg95 => ?_) (fun hg95 => ?_)
            ·refine rl_gv rfl rfl rfl rfl rfl (ov_move rfl rfl) <| rl_gv rfl rfl rfl rfl rfl (ov_gtr rfl rfl rfl) <| rl_gv rfl rfl rfl rfl rfl (ov_pick_t rfl rfl rfl) <| rl_v rfl rfl rfl (ov_pick_f rfl rfl rfl) ?_
             refine rl_nil (hk84 _ (jbd rfl (by omega)) trivial)
            ·refine rl_gskip rfl rfl rfl rfl rfl rfl <| rl_gskip rfl rfl rfl rfl rfl rfl <| rl_gv rfl rfl rfl rfl rfl (ov_pick_f rfl rfl rfl) <| rl_v rfl rfl rfl (ov_pick_f rfl rfl rfl) ?_
             refine rl_nil (hk84 _ (jbf rfl not_false) trivial)
          ·refine rl_gskip rfl rfl rfl rfl rfl rfl <| rl_gskip rfl rfl rfl rfl rfl rfl <| rl_gv rfl rfl rfl rfl rfl (ov_pick_f rfl rfl rfl) <| rl_v rfl rfl rfl (ov_pick_f rfl rfl rfl) <| rl_v rfl rfl rfl (ov_move rfl rfl) <| rl_gv rfl rfl rfl rfl rfl (ov_fieldS rfl Try.underlying60 rfl (fo := 4) rfl (by kernel_rfl) rfl) ?_
           refine rl_gv rfl rfl rfl rfl rfl (ov_load rfl Try.underlying2 rfl rfl (by exact (hH8.own).cellL 3 rfl (off := 4) rfl)) ?_
           refine rl_gv rfl rfl rfl rfl rfl (ov_gtr rfl rfl rfl) <| rl_gv rfl rfl rfl rfl rfl (ov_move rfl rfl) ?_
           first | refine rl_split_dec 333 rfl (fun hg96 => ?_) (fun hg96 => ?_) | refine rl_split 333 rfl (fun hg96 => ?_) (fun hg96 => ?_)
           ·refine rl_gv rfl rfl rfl rfl rfl (ov_move rfl rfl) <| rl_gv rfl rfl rfl rfl rfl (ov_gtr rfl rfl rfl) <| rl_gv rfl rfl rfl rfl rfl (ov_pick_t rfl rfl rfl) <| rl_v rfl rfl rfl (ov_pick_f rfl rfl rfl) ?_
            refine rl_nil (hk84 _ (jbd rfl (by omega)) trivial)
           ·refine rl_gskip rfl rfl rfl rfl rfl rfl <| rl_gskip rfl rfl rfl rfl rfl rfl <| rl_gv rfl rfl rfl rfl rfl (ov_pick_f rfl rfl rfl) <| rl_v rfl rfl rfl (ov_pick_f rfl rfl rfl) ?_
            refine rl_nil (hk84 _ (jbf rfl not_false) trivial)
       ·refine rl_gskip rfl rfl rfl rfl rfl rfl <| rl_gskip rfl rfl rfl rfl rfl rfl <| rl_gskip rfl rfl rfl rfl rfl rfl <| rl_v rfl rfl rfl (ov_pick_f rfl rfl rfl) <| rl_v rfl rfl rfl (ov_move rfl rfl) <| rl_gv rfl rfl rfl rfl rfl (ov_fieldS rfl Try.underlying60 rfl (fo := 2) rfl (by kernel_rfl) rfl) ?_
        refine rl_gv rfl rfl rfl rfl rfl (ov_load rfl Try.underlying2 rfl rfl (by exact (hH8.own).cellL 3 rfl (off := 2) rfl)) ?_
        refine rl_gv rfl rfl rfl rfl rfl (ov_fieldS rfl Try.underlying60 rfl (fo := 3) rfl (by kernel_rfl) rfl) ?_
        refine rl_gv rfl rfl rfl rfl rfl (ov_load rfl Try.underlying2 rfl rfl (by exact (hH8.own).cellL 3 rfl (off := 3) rfl)) ?_
        refine rl_gv rfl rfl rfl rfl rfl (ov_add rfl rfl rfl (by omega)) ?_
        refine rl_gv rfl rfl rfl rfl rfl (ov_fieldS rfl Try.underlying60 rfl (fo := 4) rfl (by kernel_rfl) rfl) ?_
        refine rl_gv rfl rfl rfl rfl rfl (ov_load rfl Try.underlying2 rfl rfl (by exact (hH8.own).cellL 3 rfl (off := 4) rfl)) ?_
        refine rl_gv rfl rfl rfl rfl rfl (ov_add rfl rfl rfl (by omega)) ?_
        refine rl_gv rfl rfl rfl rfl rfl (ov_gtr rfl rfl rfl) <| rl_gv rfl rfl rfl rfl rfl (ov_move rfl rfl) ?_
        first | refine rl_split_dec 312 rfl (fun hg97 => ?_) (fun hg97 => ?_) | refine rl_split 312 rfl (fun hg97 => ?_) (fun hg97 => ?_)
        ·refine rl_gv rfl rfl rfl rfl rfl (ov_move rfl rfl) <| rl_gv rfl rfl rfl rfl rfl (ov_gtr rfl rfl rfl) <| rl_gv rfl rfl rfl rfl rfl (ov_pick_t rfl rfl rfl) <| rl_v rfl rfl rfl (ov_pick_f rfl rfl rfl) <| rl_v rfl rfl rfl (ov_move rfl rfl) ?_
         first | refine rl_split_dec 317 rfl (fun hg98 => ?_) (fun hg98 => ?_) | refine rl_split 317 rfl (fun hg98 => ?_) (fun hg98 => ?_)
         ·refine rl_gskip rfl rfl rfl rfl rfl rfl <| rl_gskip rfl rfl rfl rfl rfl rfl <| rl_gskip rfl rfl rfl rfl rfl rfl <| rl_gskip rfl rfl rfl rfl rfl rfl <| rl_gskip rfl rfl rfl rfl rfl rfl <| rl_gskip rfl rfl rfl rfl rfl rfl <| rl_gskip rfl rfl rfl rfl rfl rfl <| rl_gundef rfl rfl rfl rfl rfl <| rl_gundef rfl rfl rfl rfl rfl <| rl_gskip rfl rfl rfl rfl rfl rfl <| rl_v rfl rfl rfl (ov_pick_t rfl rfl rfl) <| rl_v rfl rfl rfl (ov_move rfl rfl) <| rl_gskip rfl rfl rfl rfl rfl rfl <| rl_gskip rfl rfl rfl rfl rfl rfl <| rl_gskip rfl rfl rfl rfl rfl rfl <| rl_gskip rfl rfl rfl rfl rfl rfl <| rl_gundef rfl rfl rfl rfl rfl <| rl_gundef rfl rfl rfl rfl rfl <| rl_gskip rfl rfl rfl rfl rfl rfl <| rl_v rfl rfl rfl (ov_pick_t rfl rfl rfl) ?_
          refine rl_nil (hk84 _ (jbt rfl (by omega)) trivial)
         ·refine rl_gv rfl rfl rfl rfl rfl (ov_fieldS rfl Try.underlying60 rfl (fo := 3) rfl (by kernel_rfl) rfl) ?_
          refine rl_gv rfl rfl rfl rfl rfl (ov_load rfl Try.underlying2 rfl rfl (by exact (hH8.own).cellL 3 rfl (off := 3) rfl)) ?_
          refine rl_gv rfl rfl rfl rfl rfl (ov_fieldS rfl Try.underlying60 rfl (fo := 4) rfl (by kernel_rfl) rfl) ?_
          refine rl_gv rfl rfl rfl rfl rfl (ov_load rfl Try.underlying2 rfl rfl (by exact (hH8.own).cellL 3 rfl (off := 4) rfl)) ?_
          refine rl_gv rfl rfl rfl rfl rfl (ov_add rfl rfl rfl (by omega)) ?_
          refine rl_gv rfl rfl rfl rfl rfl (ov_gtr rfl rfl rfl) <| rl_gv rfl rfl rfl rfl rfl (ov_move rfl rfl) ?_
          first | refine rl_split_dec 324 rfl (fun hg99 => ?_) (fun hg99 => ?_) | refine rl_split 324 rfl (fun hg99 => ?_) (fun hg99 => ?_)
          ·refine rl_gv rfl rfl rfl rfl rfl (ov_move rfl rfl) <| rl_gv rfl rfl rfl rfl rfl (ov_gtr rfl rfl rfl) <| rl_gv rfl rfl rfl rfl rfl (ov_pick_t rfl rfl rfl) <| rl_v rfl rfl rfl (ov_pick_f rfl rfl rfl) <| rl_v rfl rfl rfl (ov_move rfl rfl) ?_
           first | refine rl_split_dec 329 rfl (fun hg100 => ?_) (fun hg100 => ?_) | refine rl_split 329 rfl (fun hg100 => ?_) (fun hg100 => ?_)
           ·refine rl_gskip rfl rfl rfl rfl rfl rfl <| rl_gskip rfl rfl rfl rfl rfl rfl <| rl_gskip rfl rfl rfl rfl rfl rfl <| rl_gskip rfl rfl rfl rfl rfl rfl <| rl_gundef rfl rfl rfl rfl rfl <| rl_gundef rfl rfl rfl rfl rfl <| rl_gskip rfl rfl rfl rfl rfl rfl <| rl_v rfl rfl rfl (ov_pick_t rfl rfl rfl) ?_
            refine rl_nil (hk84 _ (jbt rfl (by omega)) trivial)
           ·refine rl_gv rfl rfl rfl rfl rfl (ov_fieldS rfl Try.underlying60 rfl (fo := 4) rfl (by kernel_rfl) rfl) ?_
            refine rl_gv rfl rfl rfl rfl rfl (ov_load rfl Try.underlying2 rfl rfl (by exact (hH8.own).cellL 3 rfl (off := 4) rfl)) ?_
            refine rl_gv rfl rfl rfl rfl rfl (ov_gtr rfl rfl rfl) <| rl_gv rfl rfl rfl rfl rfl (ov_move rfl rfl) ?_
            first | refine rl_split_dec 333 rfl (fun hg101 => ?_) (fun hg101 => ?_) | refine rl_split 333 rfl (fun hg101 => ?_) (fun hg101 => ?_)
            ·refine rl_gv rfl rfl rfl rfl rfl (ov_move rfl rfl) <| rl_gv rfl rfl rfl rfl rfl (ov_gtr rfl rfl rfl) <| rl_gv rfl rfl rfl rfl rfl (ov_pick_t rfl rfl rfl) <| rl_v rfl rfl rfl (ov_pick_f rfl rfl rfl) ?_
             refine rl_nil (hk84 _ (jbd rfl (by omega)) trivial)
            ·refine rl_gskip rfl rfl rfl rfl rfl rfl <| rl_gskip rfl rfl rfl rfl rfl rfl <| rl_gv rfl rfl rfl rfl rfl (ov_pick_f rfl rfl rfl) <| rl_v rfl rfl rfl (ov_pick_f rfl rfl rfl) ?_
             refine rl_nil (hk84 _ (jbf rfl not_false) trivial)
          ·refine rl_gskip rfl rfl rfl rfl rfl rfl <| rl_gskip rfl rfl rfl rfl rfl rfl <| rl_gv rfl rfl rfl rfl rfl (ov_pick_f rfl rfl rfl) <| rl_v rfl rfl rfl (ov_pick_f rfl rfl rfl) <| rl_v rfl rfl rfl (ov_move rfl rfl) <| rl_gv rfl rfl rfl rfl rfl (ov_fieldS rfl Try.underlying60 rfl (fo := 4) rfl (by kernel_rfl) rfl) ?_
           refine rl_gv rfl rfl rfl rfl rfl (ov_load rfl Try.underlying2 rfl rfl (by exact (hH8.own).cellL 3 rfl (off := 4) rfl)) ?_
           refine rl_gv rfl rfl rfl rfl rfl (ov_gtr rfl rfl rfl) <| rl_gv rfl rfl rfl rfl rfl (ov_move rfl rfl) ?_
           first | refine rl_split_dec 333 rfl (fun hg102 => ?_) (fun hg102 => ?_) | refine rl_split 333 rfl (fun hg102 => ?_) (fun hg102 => ?_)
           ·refine rl_gv rfl rfl rfl rfl rfl (ov_move rfl rfl) <| rl_gv rfl rfl rfl rfl rfl (ov_gtr rfl rfl rfl) <| rl_gv rfl rfl rfl rfl rfl (ov_pick_t rfl rfl rfl) <| rl_v rfl rfl rfl (ov_pick_f rfl rfl rfl) ?_
            refine rl_nil (hk84 _ (jbd rfl (by omega)) trivial)
           ·refine rl_gskip rfl rfl rfl rfl rfl rfl <| rl_gskip rfl rfl rfl rfl rfl rfl <| rl_gv rfl rfl rfl rfl rfl (ov_pick_f rfl rfl rfl) <| rl_v rfl rfl rfl (ov_pick_f rfl rfl rfl) ?_
            refine rl_nil (hk84 _ (jbf rfl not_false) trivial)
        ·refine rl_gskip rfl rfl rfl rfl rfl rfl <| rl_gskip rfl rfl rfl rfl rfl rfl <| rl_gv rfl rfl rfl rfl rfl (ov_pick_f rfl rfl rfl) <| rl_v rfl rfl rfl (ov_pick_f rfl rfl rfl) <| rl_v rfl rfl rfl (ov_move rfl rfl) <| rl_gv rfl rfl rfl rfl rfl (ov_fieldS rfl Try.underlying60 rfl (fo := 3) rfl (by kernel_rfl) rfl) ?_
         refine rl_gv rfl rfl rfl rfl rfl (ov_load rfl Try.underlying2 rfl rfl (by exact (hH8.own).cellL 3 rfl (off := 3) rfl)) ?_
         refine rl_gv rfl rfl rfl rfl rfl (ov_fieldS rfl Try.underlying60 rfl (fo := 4) rfl (by kernel_rfl) rfl) ?_
         refine rl_gv rfl rfl rfl rfl rfl (ov_load rfl Try.underlying2 rfl rfl (by exact (hH8.own).cellL 3 rfl (off := 4) rfl)) ?_
         refine rl_gv rfl rfl rfl rfl rfl (ov_add rfl rfl rfl (by omega)) ?_
         refine rl_gv rfl rfl rfl rfl rfl (ov_gtr rfl rfl rfl) <| rl_gv rfl rfl rfl rfl rfl (ov_move rfl rfl) ?_
         first | refine rl_split_dec 324 rfl (fun hg103 => ?_) (fun hg103 => ?_) | refine rl_split 324 rfl (fun hg103 => ?_) (fun hg103 => ?_)
         ·refine rl_gv rfl rfl rfl rfl rfl (ov_move rfl rfl) <| rl_gv rfl rfl rfl rfl rfl (ov_gtr rfl rfl rfl) <| rl_gv rfl rfl rfl rfl rfl (ov_pick_t rfl rfl rfl) <| rl_v rfl rfl rfl (ov_pick_f rfl rfl rfl) <| rl_v rfl rfl rfl (ov_move rfl rfl) ?_
          first | refine rl_split_dec 329 rfl (fun hg104 => ?_) (fun hg104 => ?_) | refine rl_split 329 rfl (fun hg104 => ?_) (fun hg104 => ?_)
          ·refine rl_gskip rfl rfl rfl rfl rfl rfl <| rl_gskip rfl rfl rfl rfl rfl rfl <| rl_gskip rfl rfl rfl rfl rfl rfl <| rl_gskip rfl rfl rfl rfl rfl rfl <| rl_gundef rfl rfl rfl rfl rfl <| rl_gundef rfl rfl rfl rfl rfl <| rl_gskip rfl rfl rfl rfl rfl rfl <| rl_v rfl rfl rfl (ov_pick_t rfl rfl rfl) ?_
           refine rl_nil (hk84 _ (jbt rfl (by omega)) trivial)
          ·refine rl_gv rfl rfl rfl rfl rfl (ov_fieldS rfl Try.underlying60 rfl (fo := 4) rfl (by kernel_rfl) rfl) ?_
           refine rl_gv rfl rfl rfl rfl rfl (ov_load rfl Try.underlying2 rfl rfl (by exact (hH8.own).cellL 3 rfl (off := 4) rfl)) ?_
           refine rl_gv rfl rfl rfl rfl rfl (ov_gtr rfl rfl rfl) <| rl_gv rfl rfl rfl rfl rfl (ov_move rfl rfl) ?_
           first | refine rl_split_dec 333 rfl (fun hg105 => ?_) (fun hg105 => ?_) | refine rl_split 333 rfl (fun hg105 => ?_) (fun hg105 => ?_)
           ·refine rl_gv rfl rfl rfl rfl rfl (ov_move rfl rfl) <| rl_gv rfl rfl rfl rfl rfl (ov_gtr rfl rfl rfl) <| rl_gv rfl rfl rfl rfl rfl (ov_pick_t rfl rfl rfl) <| rl_v rfl rfl rfl (ov_pick_f rfl rfl rfl) ?_
            refine rl_nil (hk84 _ (jbd rfl (by omega)) trivial)
           ·refine rl_gskip rfl rfl rfl rfl rfl rfl <| rl_gskip rfl rfl rfl rfl rfl rfl <| rl_gv rfl rfl rfl rfl rfl (ov_pick_f rfl rfl rfl) <| rl_v rfl rfl rfl (ov_pick_f rfl rfl rfl) ?_
            refine rl_nil (hk84 _ (jbf rfl not_false) trivial)
         ·refine rl_gskip rfl rfl rfl rfl rfl rfl <| rl_gskip rfl rfl rfl rfl rfl rfl <| rl_gv rfl rfl rfl rfl rfl (ov_pick_f rfl rfl rfl) <| rl_v rfl rfl rfl (ov_pick_f rfl rfl rfl) <| rl_v rfl rfl rfl (ov_move rfl rfl) <| rl_gv rfl rfl rfl rfl rfl (ov_fieldS rfl Try.underlying60 rfl (fo := 4) rfl (by kernel_rfl) rfl) ?_
          refine rl_gv rfl rfl rfl rfl rfl (ov_load rfl Try.underlying2 rfl rfl (by exact (hH8.own).cellL 3 rfl (off := 4) rfl)) ?_
          refine rl_gv rfl rfl rfl rfl rfl (ov_gtr rfl rfl rfl) <| rl_gv rfl rfl rfl rfl rfl (ov_move rfl rfl) ?_
          first | refine rl_split_dec 333 rfl (fun hg106 => ?_) (fun hg106 => ?_) | refine rl_split 333 rfl (fun hg106 => ?_) (fun hg106 => ?_)
          ·refine rl_gv rfl rfl rfl rfl rfl (ov_move rfl rfl) <| rl_gv rfl rfl rfl rfl rfl (ov_gtr rfl rfl rfl) <| rl_gv rfl rfl rfl rfl rfl (ov_pick_t rfl rfl rfl) <| rl_v rfl rfl rfl (ov_pick_f rfl rfl rfl) ?_
           refine rl_nil (hk84 _ (jbd rfl (by omega)) trivial)
          ·refine rl_gskip rfl rfl rfl rfl rfl rfl <| rl_gskip rfl rfl rfl rfl rfl rfl <| rl_gv rfl rfl rfl rfl rfl (ov_pick_f rfl rfl rfl) <| rl_v rfl rfl rfl (ov_pick_f rfl rfl rfl) ?_
           refine rl_nil (hk84 _ (jbf rfl not_false) trivial)
      ·show Run _ _ _ _ [(337, _)] _ _
       first | refine run_cond_dec rfl (fun bad => ?_) (fun bad => ?_) | refine run_cond rfl (fun bad => ?_) (fun bad => ?_)
       ·exfalso; exact bad
       ·refine run_skip <| run_seq <| run_region ?_
        refine rl_call callable_21 rfl rfl rfl rfl rfl rfl (hH8.call1 (Q := fun e => e = _) (fun H hO _ => awake_any w.heap.size H w w55 hO)) (fun e107 w108 hp109 => ?_)
        obtain ⟨rfl, hH9⟩ := hp109
        refine ⟨_, rfl, ?_⟩
        refine rl_v rfl rfl rfl (ov_assign rfl rfl) <| rl_nil <| run_ret Try.func8 (res1 Try.results8 rfl) ?_
        exact ⟨rfl, (hH9.own).below⟩
end Go.Proofs.Ytfbbagnpdfafjaa
