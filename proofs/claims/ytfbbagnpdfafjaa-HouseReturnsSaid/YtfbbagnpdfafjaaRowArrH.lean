import Derived.Test.YtfbbagnpdfafjaaHcT
import Derived.Test.YtfbbagnpdfafjaaEff
import Derived.Test.YtfbbagnpdfafjaaTab
import Derived.Test.YtfbbagnpdfafjaaChecked
import Derived.Test.YtfbbagnpdfafjaaRows
import Derived.ProofKit
import Derived.SizedLaws
import Derived.Deep.Modes
import Derived.Deep.Frames
import Derived.Deep.Matrix
import Derived.Carry
import Derived.Lib.SmallJoins
import Derived.Test.YtfbbagnpdfafjaaHcO
import Derived.Deep.Slices
import Derived.Test.YtfbbagnpdfafjaaRul
set_option maxRecDepth 100000
namespace Go.Proofs.Ytfbbagnpdfafjaa
open Go.RowKit Go.Proofs
theorem mrk_ok {X : HM} {m p : Int} (hm : 0 ≤ m ∧ m < X.mo) (hp : 1 ≤ p ∧ p ≤ 1000000) : X.mrk m p = 0 := by
 unfold HM.mrk
 rw [if_neg (by omega), if_pos hp]
theorem mark_of {X : HM} {m p : Int} (h : X.mrk m p = 0) : X.mark m p = { X with ac := fun j => X.mkA m p (X.ac j), pr := upd X.pr m p } := if_pos h
theorem mark_back {X : HM} {m p : Int} (hm : 0 ≤ m ∧ m < X.mo) (hp : 1 ≤ p ∧ p ≤ 1000000) (hx : 1 ≤ X.pr m ∧ X.pr m ≤ 1000000) : (X.mark m p).mark m (X.pr m) = X := by
 have h1 := mrk_ok hm hp
 have h2 : (X.mark m p).mrk m (X.pr m) = 0 := by rw [mark_of h1]; exact mrk_ok (X := { X with ac := fun j => X.mkA m p (X.ac j), pr := upd X.pr m p }) hm hx
 rw [mark_of h2, mark_of h1]
 have e1 : upd (upd X.pr m p) m (X.pr m) = X.pr := by
  funext j
  unfold upd
  split
  ·rename_i e; rw [e]
  ·rfl
 have e2 : (fun j => HM.mkA { X with ac := fun j => X.mkA m p (X.ac j), pr := upd X.pr m p } m (X.pr m) (X.mkA m p (X.ac j))) = X.ac := by
  funext j
  refine HA.ext4 ?_ rfl rfl rfl
  show (X.ac j).cash + (X.ac j).pos m * (p - X.pr m) + (X.ac j).pos m * (X.pr m - upd X.pr m p m) = (X.ac j).cash
  rw [upd_same, Int.add_assoc, ← Int.mul_add, show p - X.pr m + (X.pr m - p) = 0 by omega, Int.mul_zero, Int.add_zero]
 show ({ X with ac := fun j => HM.mkA { X with ac := fun j => X.mkA m p (X.ac j), pr := upd X.pr m p } m (X.pr m) (X.mkA m p (X.ac j)), pr := upd (upd X.pr m p) m (X.pr m) } : HM) = X
 rw [e1, e2]
set_option maxHeartbeats 4000000 in
theorem returns9_any (mm mn : Int) (pa ma la : Option Addr) (pn pc mk mc ln lc : Nat) (rt cp : Int) (P0 : Int → Int) (L0 : Int → Nat) (F0 : Int → Int → Int) (S : HActs) (of0 : Int → Int) (w : World) (hP : IAt w.heap.size w pa pn (fun i => iv (P0 i))) (hT : ITab w.heap.size w ma mk L0 (fun r c => iv (F0 r c))) (hS : SAt w.heap.size w la 7 ln S.l) :
  Calls Try.prog 12 #[.agg (cfL mm mn pa pn pc ma mk mc rt cp).toArray, .slice la ln lc, arrv 2 (fun i => iv (of0 i))] w fun e w' => e = .returned (.bool true) ∧ Below w.heap.size w w' := by
 refine calls_of_run (F := [(0, _), (1, _), (2, _)]) Try.func12 rfl Try.ntmps12 rfl rfl <| run_seq <| run_region <| rl_ow rfl (ow_box _ rfl rfl rfl rfl rfl (Own.init w)) ?_
 rintro _ w1 ⟨b3, rfl, hO2, hs3⟩
 refine rl_ow rfl (ow_boxA rfl rfl rfl rfl hO2) ?_
 rintro _ w4 ⟨b5, rfl, hO5, hs6⟩
 refine rl_v rfl rfl rfl (ov_assign rfl rfl) <| rl_nil <| run_seq <| run_region <| rl_v rfl rfl rfl (ov_loadW rfl Try.underlying25 rfl (by kernel_rfl) rfl hO5 1 rfl) ?_
 refine rl_call callable_15 rfl rfl rfl rfl rfl rfl (tame_any mm mn pa ma pn pc mk mc rt cp P0 L0 F0 w.heap.size _ w w4 hO5 hP hT) (fun e7 w8 hp9 => ?_)
 obtain ⟨mem, mon, pa2, ma2, pc2, k2, mc2, P, F, rate, cap, N, rfl, hC, hO2⟩ := hp9
 refine ⟨_, rfl, ?_⟩
 have hmem := hC.hmem
 have hmon := hC.hmon
 refine rl_ow rfl (ow_alloc _ rfl rfl rfl zero_25 rfl hO2) ?_
 rintro _ w10 ⟨b7, rfl, hO11, hs12⟩
 refine rl_ow rfl (ow_storeW rfl rfl (by kernel_rfl) hO11 0 rfl rfl (by rfl) rfl (by rfl)) ?_
 rintro _ w13 ⟨rfl, hO14, hs15⟩
 refine rl_nil <| run_seq <| run_region <| rl_v rfl rfl rfl (ov_loadW rfl Try.underlying25 rfl (by kernel_rfl) rfl hO14 0 rfl) ?_
 refine rl_v rfl rfl rfl (ov_move rfl rfl) ?_
 refine rl_call callable_16 rfl rfl rfl rfl rfl rfl (run_any mem mon pa2 ma2 la pc2 k2 mc2 ln lc P F rate cap 25 S N w.heap.size _ w w13 hO14 (.cons _ (List.sublist_append_left _ _)) hC hS (by decide)) (fun e16 w17 hp18 => ?_)
 obtain ⟨hb, X, T, G, rfl, ⟨hX, hsm, _⟩, hI, hH0⟩ := hp18
 refine ⟨_, rfl, ?_⟩
 have hXG := hX.gg (by omega)
 have hG := hXG.g
 have hXmo : X.mo = mon := congrArg Prod.snd hsm.dim
 have hmn := X.mn_eq hXG.mo
 obtain ⟨RR, hRR⟩ : ∃ RR, RR = T ++ (some (lch b7 25 (cfL mem mon pa2 mon.toNat pc2 ma2 k2 mc2 rate cap)) :: (N ++ [some (vch b5 89 2 (fun i => iv (of0 i))), some (lch b3 25 (cfL mm mn pa pn pc ma mk mc rt cp))])) := ⟨_, rfl⟩
 obtain ⟨TN, hTN⟩ : ∃ TN, TN = T ++ N := ⟨_, rfl⟩
 have hsI : TN.Sublist RR := by rw [hRR, hTN]; exact List.Sublist.append_left (.cons _ (List.sublist_append_left _ _)) T
 have hs75 : [some (lch b7 25 (cfL mem mon pa2 mon.toNat pc2 ma2 k2 mc2 rate cap)), some (vch b5 89 2 (fun i => iv (of0 i)))].Sublist RR := by
  rw [hRR]
  exact (List.Sublist.cons_cons _ ((List.Sublist.cons_cons _ (List.nil_sublist _)).trans (List.sublist_append_right N _))).trans (List.sublist_append_right T _)
 replace hH0 : HAt w.heap.size w w17 hb X [] RR := by rw [hRR]; exact hH0
 replace hI : GIn TN X G := by rw [hTN]; exact hI
 clear hRR hTN
 obtain ⟨K1, N1, hO3, hK1, hP1⟩ := hH0.open
 refine rl_v rfl rfl rfl (ov_move rfl rfl) <| rl_v rfl rfl rfl (ov_extract rfl rfl (by rfl)) ?_
 refine rl_v rfl rfl rfl (ov_extract rfl rfl (by rfl)) ?_
 refine rl_ow rfl (ow_alloc _ rfl rfl rfl zero_34 rfl hO3) ?_
 rintro _ w19 ⟨b9, rfl, hO20, hs21⟩
 refine rl_v rfl rfl rfl (ov_assign rfl rfl) <| rl_ow rfl (ow_storeW rfl rfl (by kernel_rfl) hO20 0 rfl rfl (by rfl) rfl (by rfl)) ?_
 rintro _ w22 ⟨rfl, hO23, hs24⟩
 have hH1 : HAt w.heap.size w w22 hb X [] (some (lch b9 34 (ghL X G)) :: RR) := HAt.puts [some (lch b9 34 (ghL X G))] hO23 hK1 hP1
 refine rl_nil <| run_seq <| run_seq <| run_region <| rl_v rfl rfl rfl (ov_move rfl rfl) <| rl_v rfl rfl rfl (ov_ptrnil rfl Try.underlying30 rfl) <| rl_nil <| run_cond_f rfl ?_
 have hmr : 0 ≤ IntKind.u64.wrap (of0 0) % mon ∧ IntKind.u64.wrap (of0 0) % mon < mon := ⟨Int.emod_nonneg _ (by omega), Int.emod_lt_of_pos _ (by omega)⟩
 obtain ⟨m, hm⟩ : ∃ m, m = IntKind.u64.wrap (of0 0) % mon := ⟨_, rfl⟩
 have hm2 : 0 ≤ m ∧ m < X.mo := by rw [hXmo, hm]; exact hmr
 have hs1 := sml_rng (of0 1) (show (0 : Int) ≤ 300 by decide)
 obtain ⟨p, hp⟩ : ∃ p, p = 1 + sml (of0 1) 300 := ⟨_, rfl⟩
 refine run_skip <| run_seq <| run_region <| rl_v rfl rfl rfl (ov_indexA1 rfl Try.underlying89 (by kernel_rfl) rfl rfl ⟨by omega, by omega⟩) ?_
 refine rl_v rfl rfl rfl (ov_load rfl Try.underlying2 rfl rfl (by exact (show _ = some (iv (of0 0)) from (hH1.own.sub (.cons _ hs75)).cellI 1 rfl 0 (by decide) (by decide)))) ?_
 refine rl_v rfl rfl rfl (ov_conv rfl Try.underlying2 Try.underlying90 rfl) <| rl_v rfl rfl rfl (ov_fieldS rfl Try.underlying25 rfl (fo := 1) rfl (by kernel_rfl) rfl) ?_
 refine rl_v rfl rfl rfl (ov_load rfl Try.underlying3 rfl rfl (by exact (show _ = some (iv mon) from (hH1.own.sub (.cons _ hs75)).cellL 0 rfl (off := 1) rfl))) ?_
 refine rl_v rfl rfl rfl (nv (ov_conv rfl Try.underlying3 Try.underlying90 rfl) ((wPos (by omega) (by omega)).trans (Int.toNat_of_nonneg (by omega)))) ?_
 refine rl_v rfl rfl rfl (ov_rem rfl rfl rfl (u64_nn _) (by omega)) ?_
 refine rl_v rfl rfl rfl (nv (ov_conv rfl Try.underlying90 Try.underlying3 rfl) ((IntWalk.i64_in _ (by omega)).trans hm.symm)) ?_
 refine rl_v rfl rfl rfl (ov_assign rfl rfl) <| rl_nil <| run_seq <| run_region <| rl_v rfl rfl rfl (ov_indexA1 rfl Try.underlying89 (by kernel_rfl) rfl rfl ⟨by omega, by omega⟩) ?_
 refine rl_v rfl rfl rfl (ov_load rfl Try.underlying2 rfl rfl (by exact (show _ = some (iv (of0 1)) from (hH1.own.sub (.cons _ hs75)).cellI 1 rfl 1 (by decide) (by decide)))) ?_
 refine rl_call callable_19 rfl rfl rfl rfl rfl rfl (hH1.call1 (Q := fun e => e = _) (fun H hO _ => small_any (of0 1) 300 w.heap.size H w w22 hO (by decide))) (fun e25 w26 hp27 => ?_)
 obtain ⟨rfl, hH2⟩ := hp27
 refine ⟨_, rfl, ?_⟩
 have hp2 : 1 ≤ p ∧ p ≤ 1000000 := by omega
 have hprm := hX.pr m hm2.1 hm2.2
 have hk1 := mrk_ok hm2 hp2
 have hbk := mark_back hm2 hp2 (by omega : 1 ≤ X.pr m ∧ X.pr m ≤ 1000000)
 have hk2 : (X.mark m p).mrk m (X.pr m) = 0 := by rw [mark_of hk1]; exact mrk_ok (X := { X with ac := fun j => X.mkA m p (X.ac j), pr := upd X.pr m p }) hm2 (by omega)
 have hX2 := hX.mark (by omega) m p (by omega)
 refine rl_v rfl rfl rfl (nv (ov_add rfl rfl rfl (by omega)) hp.symm) ?_
 refine rl_v rfl rfl rfl (ov_assign rfl rfl) <| rl_nil <| run_seq <| run_region <| rl_v rfl rfl rfl (ov_move rfl rfl) ?_
 refine rl_call callable_42 rfl rfl rfl rfl rfl rfl (fork_any hb w.heap.size X [] _ w w26 hH2 hG) (fun e28 w29 hp30 => ?_)
 obtain ⟨hf, rfl, hW⟩ := hp30
 refine ⟨_, rfl, ?_⟩
 refine rl_v rfl rfl rfl (ov_assign rfl rfl) <| rl_nil <| run_seq <| run_seq <| run_region <| rl_v rfl rfl rfl (ov_move rfl rfl) <| rl_v rfl rfl rfl (ov_ptrnil rfl Try.underlying30 rfl) <| rl_nil <| run_cond_f rfl ?_
 obtain ⟨L3, N3, hA3, hY3, hP3⟩ := hW.swap.left
 refine run_skip <| run_seq <| run_region <| rl_v rfl rfl rfl (ov_move rfl rfl) <| rl_v rfl rfl rfl (ov_move rfl rfl) <| rl_v rfl rfl rfl (ov_move rfl rfl) ?_
 refine rl_call callable_22 rfl rfl rfl rfl rfl rfl (mark_any hf w.heap.size X m p N3 _ w w29 hA3 hG) (fun e31 w32 hp33 => ?_)
 obtain ⟨v1, c1, rfl, hr1, hl1, hA4⟩ := hp33
 refine ⟨_, rfl, ?_⟩
 have hA4' := hA4.shed
 have hW2 := (W2H.of (T := []) hA4' hY3 hP3).swap
 obtain ⟨L5, N5, hA5, hY5, hP5⟩ := hW2.left
 refine rl_v rfl rfl rfl (ov_move rfl rfl) <| rl_v rfl rfl rfl (ov_extract rfl rfl (by rfl)) ?_
 refine rl_v rfl rfl rfl (ov_extract rfl rfl (by rfl)) ?_
 refine rl_v rfl rfl rfl (ov_assign rfl rfl) <| rl_v rfl rfl rfl (ov_assign rfl rfl) <| rl_nil <| run_seq <| run_seq <| run_region <| rl_v rfl rfl rfl (ov_move rfl rfl) <| rl_v rfl rfl rfl (ov_neq rfl rfl rfl) <| rl_v rfl rfl rfl (ov_move rfl rfl) ?_
 first | refine rl_noD 54 rfl (fun h => h hk1) ?_ | refine rl_no 54 rfl (fun h => h hk1) ?_
 refine rl_gv rfl rfl rfl rfl rfl (ov_move rfl rfl) <| rl_gv rfl rfl rfl rfl rfl (ov_loadW rfl Try.underlying34 rfl (by kernel_rfl) rfl (hA5.own) 2 rfl) ?_
 refine rl_gcall callable_35 rfl rfl rfl rfl rfl rfl rfl rfl (shows_any hb w.heap.size X G N5 TN _ w w32 hA5 hI (.cons _ (.cons _ (.cons _ hsI))) hXG) (fun e34 w35 hp36 => ?_)
 obtain ⟨rfl, hA6⟩ := hp36
 refine ⟨_, rfl, ?_⟩
 refine rl_gv rfl rfl rfl rfl rfl (ov_not rfl rfl) <| rl_v rfl rfl rfl (ov_pick_f rfl rfl rfl) <| rl_nil <| run_cond_f rfl <| run_skip <| run_seq <| run_region <| rl_v rfl rfl rfl (ov_move rfl rfl) <| rl_v rfl rfl rfl (ov_move rfl rfl) <| rl_v rfl rfl rfl (ov_move rfl rfl) ?_
 refine rl_call callable_22 rfl rfl rfl rfl rfl rfl (mark_any hb w.heap.size X m p N5 _ w w35 hA6 hG) (fun e37 w38 hp39 => ?_)
 obtain ⟨v2, c2, rfl, hr2, hl2, hA7⟩ := hp39
 refine ⟨_, rfl, ?_⟩
 have hA8 := hA7.shed
 obtain ⟨pb0, po0, ep0, rp0⟩ := hI.pv.at (hA8.own.sub (.cons _ (.cons _ (.cons _ hsI)))) (by omega)
 refine rl_v rfl rfl rfl (ov_move rfl rfl) <| rl_v rfl rfl rfl (ov_extract rfl rfl (by rfl)) ?_
 refine rl_v rfl rfl rfl (ov_extract rfl rfl (by rfl)) ?_
 refine rl_v rfl rfl rfl (ov_assign rfl rfl) <| rl_v rfl rfl rfl (ov_assign rfl rfl) <| rl_nil <| run_seq <| run_region <| rl_v rfl rfl rfl (ov_move rfl rfl) <| rl_v rfl rfl rfl (ov_move rfl rfl) <| rl_v rfl rfl rfl (ov_fieldS rfl Try.underlying34 rfl (fo := 6) rfl (by kernel_rfl) rfl) ?_
 refine rl_v rfl rfl rfl (ov_load rfl Try.underlying22 rfl rfl (by exact (hA8.own).cellL 2 rfl (off := 6) rfl)) ?_
 refine rl_v rfl rfl rfl (ov_move rfl rfl) <| rl_v rfl rfl rfl (ov_index1 rfl Try.underlying22 (by kernel_rfl) rfl rfl ⟨by omega, by omega⟩ (by exact (id ep0))) ?_
 refine rl_v rfl rfl rfl (ov_load rfl Try.underlying2 rfl rfl (by exact rp0 ((hA8.own).sub (.cons _ (.cons _ (.cons _ hsI)))) m hm2.1 (by omega))) ?_
 refine rl_call callable_22 rfl rfl rfl rfl rfl rfl (mark_any hb w.heap.size (X.mark m p) m (X.pr m) N5 _ w w38 hA8 (hX2.hg (by omega))) (fun e40 w41 hp42 => ?_)
 obtain ⟨v3, c3, rfl, hr3, hl3, hA9⟩ := hp42
 refine ⟨_, rfl, ?_⟩
 rw [hbk] at hA9
 have hA10 := hA9.shed
 refine rl_v rfl rfl rfl (ov_move rfl rfl) <| rl_v rfl rfl rfl (ov_extract rfl rfl (by rfl)) ?_
 refine rl_v rfl rfl rfl (ov_extract rfl rfl (by rfl)) ?_
 refine rl_v rfl rfl rfl (ov_assign rfl rfl) <| rl_v rfl rfl rfl (ov_assign rfl rfl) <| rl_nil <| run_seq <| run_region <| rl_v rfl rfl rfl (ov_move rfl rfl) <| rl_v rfl rfl rfl (ov_eql rfl rfl rfl) <| rl_v rfl rfl rfl (ov_move rfl rfl) ?_
 first | refine rl_yesD 80 rfl (hk1) ?_ | refine rl_yes 80 rfl (hk1) ?_
 refine rl_gv rfl rfl rfl rfl rfl (ov_move rfl rfl) <| rl_gv rfl rfl rfl rfl rfl (ov_eql rfl rfl rfl) <| rl_v rfl rfl rfl (ov_pick_t rfl rfl rfl) <| rl_v rfl rfl rfl (ov_move rfl rfl) ?_
 first | refine rl_yesD 84 rfl (hk2) ?_ | refine rl_yes 84 rfl (hk2) ?_
 refine rl_gv rfl rfl rfl rfl rfl (ov_move rfl rfl) <| rl_gv rfl rfl rfl rfl rfl (ov_loadW rfl Try.underlying34 rfl (by kernel_rfl) rfl (hA10.own) 2 rfl) ?_
 refine rl_gcall callable_35 rfl rfl rfl rfl rfl rfl rfl rfl (shows_any hb w.heap.size X G N5 TN _ w w41 hA10 hI (.cons _ (.cons _ (.cons _ hsI))) hXG) (fun e43 w44 hp45 => ?_)
 obtain ⟨rfl, hA11⟩ := hp45
 refine ⟨_, rfl, ?_⟩
 refine rl_v rfl rfl rfl (ov_pick_t rfl rfl rfl) <| rl_v rfl rfl rfl (ov_move rfl rfl) ?_
 first | refine rl_yesD 89 rfl (rfl) ?_ | refine rl_yes 89 rfl (rfl) ?_
 refine rl_gcall callable_21 rfl rfl rfl rfl rfl rfl rfl rfl (hA11.call1 (Q := fun e => e = _) (fun H hO _ => awake_any w.heap.size H w w44 hO)) (fun e46 w47 hp48 => ?_)
 obtain ⟨rfl, hA12⟩ := hp48
 refine ⟨_, rfl, ?_⟩
 refine rl_v rfl rfl rfl (ov_pick_t rfl rfl rfl) <| rl_v rfl rfl rfl (ov_assign rfl rfl) <| rl_nil <| run_ret Try.func12 (res1 Try.results12 rfl) ?_
 exact ⟨rfl, (hA12.own).below⟩
end Go.Proofs.Ytfbbagnpdfafjaa
set_option maxRecDepth 100000
namespace Go.Proofs.Ytfbbagnpdfafjaa
open Go.Joins Go.ChangeShapes Go.WideShapes Go.ChangeAt Go.RowKit Go.Deep Go.Proofs
theorem Try.own : ownKnob Try.prog.godebug = none := by kernel_rfl
theorem Try.laidOut : laidOutB Try.prog = true := by kernel_rfl
theorem cell_lt {w : World} {b off : Nat} {v : Value} (h : w.cell? ⟨b, off, none⟩ = some v) : b < w.heap.size := by
 by_cases hb : b < w.heap.size
 ·exact hb
 ·have : w.heap[b]? = none := by simp; omega
  simp [World.cell?, this] at h
theorem iat_of {W : World} (a : Addr) (n : Nat) (f : Nat → Value) (h : ∀ i, i < n → W.cell? (a.add i) = some (f i)) : IAt W.heap.size W (some a) n (fun i => f i.toNat) := by
 by_cases hn : n = 0
 ·subst hn; exact IAt.nil _ _ _ _
 ·obtain ⟨b, o, s⟩ := a
  have hs : s = none := by simpa [Addr.add] using World.cell?_spot (h 0 (by omega))
  subst hs
  refine ⟨b, o, fun _ => rfl, fun _ => ?_, fun i hi => ?_⟩
  ·have := h 0 (by omega)
   rw [Addr.add_mid] at this
   exact cell_lt this
  ·have := h i hi
   rw [Addr.add_mid] at this
   exact this
theorem open_row0 {H : Type} {enc : TypeId × Value → H} {W : World} {v : Value} {y : DataW H × List MemPlace} {fuel : Nat} (hf : DataW.trod enc Try.prog W 0 (fun _ => true) true fuel 22 [v] = some y) :
  ∃ (ao : Option Addr) (n c : Nat) (g : Int → Int), v = .slice ao n c ∧ n ≤ c ∧ IAt W.heap.size W ao n (fun i => .int .i64 (g i)) := by
 rcases open_ints Try.underlying22 Try.underlying2 (by kernel_rfl) hf with ⟨hcs, hx⟩ | ⟨a, len, cap, zs, hcs, _, hl, hm, hz, hx, hc, _⟩
 ·have hv : v = .slice none 0 0 := by
   simpa using hcs
  exact ⟨none, 0, 0, fun _ => 0, hv, Nat.le_refl _, IAt.nil _ _ _ _⟩
 ·have hv : v = .slice (some a) len cap := by
   simpa using hcs
  simp only [if_true] at hz
  exact ⟨some a, len, cap, fun i => zs.getD i.toNat 0, hv, hl, iat_of a len (fun i => .int .i64 (zs.getD i 0)) (fun i hi => hc i (by omega))⟩
end Go.Proofs.Ytfbbagnpdfafjaa
set_option maxRecDepth 100000
namespace Go.Proofs.Ytfbbagnpdfafjaa
open Go.Joins Go.ChangeShapes Go.WideShapes Go.ChangeAt Go.RowKit Go.Deep Go.Proofs
def HTab (B : Nat) (w : World) (ao : Option Addr) (n : Nat) (L : Int → Nat) (F : Int → Int → Int) : Prop :=
 ∃ (A : Int → Option Addr) (C : Int → Nat), IAt B w ao n (fun r => .slice (A r) (L r) (C r)) ∧ (∀ r : Int, 0 ≤ r → r < n → L r ≤ C r) ∧ ∀ r : Int, 0 ≤ r → r < n → IAt B w (A r) (L r) (fun c => iv (F r c))
theorem HTab.tab {B : Nat} {w : World} {ao : Option Addr} {n : Nat} {L : Int → Nat} {F : Int → Int → Int} (h : HTab B w ao n L F) : ITab B w ao n L (fun r c => iv (F r c)) := by
 obtain ⟨A, C, h1, _, h2⟩ := h
 exact ⟨A, C, h1, h2⟩
theorem open_htab0 {H : Type} {enc : TypeId × Value → H} {W : World} {v : Value} {y : DataW H × List MemPlace} {fuel : Nat} (hf : DataW.trod enc Try.prog W 0 (fun _ => true) true fuel 23 [v] = some y) :
  ∃ (ao : Option Addr) (G Gc : Nat) (L : Int → Nat) (D : Int → Int → Int), v = .slice ao G Gc ∧ G ≤ Gc ∧ HTab W.heap.size W ao G L D := by
 rcases open_int_rows Try.underlying23 Try.underlying22 Try.underlying2 (by kernel_rfl) (by kernel_rfl) hf with ⟨hcs, hx⟩ | ⟨a, len, cap, A, L, C, Z, hcs, _, hl, hm, hx, hrows⟩
 ·have hv : v = .slice none 0 0 := by
   simpa using hcs
  exact ⟨none, 0, 0, fun _ => 0, fun _ _ => 0, hv, Nat.le_refl _, fun _ => none, fun _ => 0, IAt.nil _ _ _ _, fun r h0 h1 => by omega, fun r h0 h1 => by omega⟩
 ·have hv : v = .slice (some a) len cap := by
   simpa using hcs
  refine ⟨some a, len, cap, fun r => L r.toNat, fun r c => (Z r.toNat).getD c.toNat 0, hv, hl, fun r => A r.toNat, fun r => C r.toNat, iat_of a len (fun r => .slice (A r) (L r) (C r)) (fun i hi => (hrows i (by omega)).1), fun r h0 h1 => (hrows r.toNat (by omega)).2.1, fun r h0 h1 => ?_⟩
  obtain ⟨_, h1', _, _, _, h3, h4⟩ := hrows r.toNat (by omega)
  dsimp only
  cases hA : A r.toNat with
  | none =>
   rw [show L r.toNat = 0 by have := h3 hA; omega]
   exact IAt.nil _ _ _ _
  | some a' =>
   exact iat_of a' (L r.toNat) (fun c => .int .i64 ((Z r.toNat).getD c 0)) (fun i hi => (h4 a' hA).2 i (by omega))
theorem list6 {l : List Value} (h : l.length = 6) : ∃ a b c d e f, l = [a, b, c, d, e, f] := by
 match l, h with
 | [a, b, c, d, e, f], _ => exact ⟨a, b, c, d, e, f, rfl⟩
theorem open_hcfg {H : Type} {enc : TypeId × Value → H} {W : World} {v : Value} {d : DataW H} {ps : List MemPlace} {r : Reach} {b0 : Nat} (hval : Value.okWide Try.prog W r b0 25 v) (h : DataW.Trod enc Try.prog W 0 (fun _ => true) true 25 v d ps) :
  ∃ (mm mn : Int) (pa : Option Addr) (pn pc : Nat) (P : Int → Int) (ma : Option Addr) (mk mc : Nat) (L : Int → Nat) (F : Int → Int → Int) (rt cp : Int), v = .agg (cfL mm mn pa pn pc ma mk mc rt cp).toArray ∧ pn ≤ pc ∧ IAt W.heap.size W pa pn (fun i => iv (P i)) ∧ HTab W.heap.size W ma mk L F := by
 obtain ⟨cs, rfl, hsz⟩ := okWide_struct Try.underlying25 hval
 have hc6 : Try.prog.cellsOf 25 = 6 := by kernel_rfl
 obtain ⟨v0, v1, v2, v3, v4, v5, e6⟩ := list6 (l := cs.toList) (by simpa using hsz.trans hc6)
 have ecs : cs = [v0, v1, v2, v3, v4, v5].toArray := by rw [← e6]
 subst ecs
 obtain ⟨fuel, hf⟩ := h
 replace hf : DataW.trod enc Try.prog W 0 (fun _ => true) true fuel 25 [v0, v1, v2, v3, v4, v5] = some (d, ps) := by simpa [Value.cells] using hf
 obtain ⟨xs, k, _, _, _, hxl, hf⟩ := DataW.trod_struct Try.underlying25 hf
 have ci : Try.prog.cellsOf 3 = 1 := by kernel_rfl
 have cl : Try.prog.cellsOf 2 = 1 := by kernel_rfl
 have cs1 : Try.prog.cellsOf 22 = 1 := by kernel_rfl
 have cs2 : Try.prog.cellsOf 23 = 1 := by kernel_rfl
 match xs, hxl with
 | [x0, x1, x2, x3, x4, x5], _ =>
  have g0 := hf 0 _ rfl
  have g1 := hf 1 _ rfl
  have g2 := hf 2 _ rfl
  have g3 := hf 3 _ rfl
  have g4 := hf 4 _ rfl
  have g5 := hf 5 _ rfl
  simp [ci, cl, cs1, cs2] at g0 g1 g2 g3 g4 g5
  obtain ⟨z0, e0, _⟩ := DataW.trod_int Try.underlying3 g0
  obtain ⟨z1, e1, _⟩ := DataW.trod_int Try.underlying3 g1
  obtain ⟨pa, pn, pc, P, rfl, hpc, hP⟩ := open_row0 g2
  obtain ⟨ma, mk, mc, L, F, rfl, _, hF⟩ := open_htab0 g3
  obtain ⟨z4, e4, _⟩ := DataW.trod_int Try.underlying2 g4
  obtain ⟨z5, e5, _⟩ := DataW.trod_int Try.underlying2 g5
  simp only [List.cons.injEq, and_true] at e0 e1 e4 e5
  subst e0; subst e1; subst e4; subst e5
  exact ⟨z0, z1, pa, pn, pc, P, ma, mk, mc, L, F, z4, z5, rfl, hpc, hP, hF⟩
theorem sat_ofH {W : World} (a : Addr) (s n : Nat) (G : Int → List Value) (hs : 0 < s) (h : ∀ i, i < n → ∀ j, j < s → W.cell? (a.add (i * s + j)) = some ((G (i : Int)).getD j undef)) : SAt W.heap.size W (some a) s n G := by
 by_cases hn : n = 0
 ·subst hn
  have := RAt.nil W.heap.size W (some a) (fun j => (G ((j / s : Nat) : Int)).getD (j % s) undef)
  rw [← Nat.zero_mul s] at this
  exact this
 ·obtain ⟨b, o, sp⟩ := a
  have hsp : sp = none := by simpa [Addr.add] using World.cell?_spot (h 0 (by omega) 0 hs)
  subst hsp
  refine ⟨b, o, fun _ => rfl, fun _ => ?_, fun j hj => ?_⟩
  ·have := h 0 (by omega) 0 hs
   rw [Addr.add_mid] at this
   exact cell_lt this
  ·have h1 : j / s < n := Nat.div_lt_of_lt_mul (by rw [Nat.mul_comm]; exact hj)
   have := h (j / s) h1 (j % s) (Nat.mod_lt _ hs)
   rw [Addr.add_mid] at this
   have hdm := Nat.div_add_mod j s
   rw [Nat.mul_comm] at hdm
   rw [hdm] at this
   exact this
theorem list7 {l : List Value} (h : l.length = 7) : ∃ a b c d e f g, l = [a, b, c, d, e, f, g] := by
 match l, h with
 | [a, b, c, d, e, f, g], _ => exact ⟨a, b, c, d, e, f, g, rfl⟩
structure HAct where
 k : Int
 a : Int
 b : Int
 m : Int
 q : Int
 p : Int
 n : Int
instance : Inhabited HAct := ⟨⟨0, 0, 0, 0, 0, 0, 0⟩⟩
def HAct.l (x : HAct) : List Value := actL x.k x.a x.b x.m x.q x.p x.n
theorem open_hact {H : Type} {enc : TypeId × Value → H} {W : World} {n : Nat} {l : List Value} (hl : l.length = 7) {y : DataW H × List MemPlace} (h : DataW.trod enc Try.prog W 0 (fun _ => true) true n 28 l = some y) : ∃ x : HAct, l = x.l := by
 obtain ⟨v0, v1, v2, v3, v4, v5, v6, rfl⟩ := list7 hl
 obtain ⟨xs, k, _, _, _, hxl, hf⟩ := DataW.trod_struct Try.underlying28 h
 have ci : Try.prog.cellsOf 3 = 1 := by kernel_rfl
 have cl : Try.prog.cellsOf 2 = 1 := by kernel_rfl
 match xs, hxl with
 | [x0, x1, x2, x3, x4, x5, x6], _ =>
  have g0 := hf 0 _ rfl
  have g1 := hf 1 _ rfl
  have g2 := hf 2 _ rfl
  have g3 := hf 3 _ rfl
  have g4 := hf 4 _ rfl
  have g5 := hf 5 _ rfl
  have g6 := hf 6 _ rfl
  simp [ci, cl] at g0 g1 g2 g3 g4 g5 g6
  obtain ⟨z0, e0, _⟩ := DataW.trod_int Try.underlying3 g0
  obtain ⟨z1, e1, _⟩ := DataW.trod_int Try.underlying3 g1
  obtain ⟨z2, e2, _⟩ := DataW.trod_int Try.underlying3 g2
  obtain ⟨z3, e3, _⟩ := DataW.trod_int Try.underlying3 g3
  obtain ⟨z4, e4, _⟩ := DataW.trod_int Try.underlying2 g4
  obtain ⟨z5, e5, _⟩ := DataW.trod_int Try.underlying2 g5
  obtain ⟨z6, e6, _⟩ := DataW.trod_int Try.underlying2 g6
  simp only [List.cons.injEq, and_true] at e0 e1 e2 e3 e4 e5 e6
  subst e0; subst e1; subst e2; subst e3; subst e4; subst e5; subst e6
  exact ⟨⟨z0, z1, z2, z3, z4, z5, z6⟩, rfl⟩
def HActs.of (f : Nat → HAct) : HActs := ⟨fun i => (f i.toNat).k, fun i => (f i.toNat).a, fun i => (f i.toNat).b, fun i => (f i.toNat).m, fun i => (f i.toNat).q, fun i => (f i.toNat).p, fun i => (f i.toNat).n⟩
theorem open_hacts {H : Type} {enc : TypeId × Value → H} {W : World} {v : Value} {d : DataW H} {ps : List MemPlace} (h : DataW.Trod enc Try.prog W 0 (fun _ => true) true 26 v d ps) (hs : ∃ a l c, v = .slice a l c) :
  ∃ (ao : Option Addr) (n c : Nat) (S : HActs), v = .slice ao n c ∧ SAt W.heap.size W ao 7 n S.l := by
 obtain ⟨fuel, hf⟩ := h
 obtain ⟨sa, sl, sc, rfl⟩ := hs
 rcases open_slice Try.underlying26 hf with ⟨hcs, _⟩ | ⟨a, len, cap, m, n, D, Pl, hcs, _, hl, _, hm, _, hx⟩
 ·have hv : Value.slice sa sl sc = .slice none 0 0 := by simpa [Value.cells] using hcs
  rw [hv]
  exact ⟨none, 0, 0, .of fun _ => default, rfl, SAt.nil _ _ _ _ _⟩
 ·have hv : Value.slice sa sl sc = .slice (some a) len cap := by simpa [Value.cells] using hcs
  rw [hv]
  have hlm : len ≤ m := by rw [hm]; simp; omega
  have each : ∀ i, i < len → ∃ q : HAct, ∀ j, j < 7 → W.cell? (a.add (i * 7 + j)) = some (q.l.getD j undef) := by
   intro i hi
   obtain ⟨cs', h1, h2⟩ := hx i (by omega)
   have ce : Try.prog.cellsOf 28 = 7 := by kernel_rfl
   rw [ce] at h1
   obtain ⟨_, hlen, hcell⟩ := World.cells?_some h1
   obtain ⟨q, rfl⟩ := open_hact hlen h2
   refine ⟨q, fun j hj => ?_⟩
   have hc := hcell j hj
   rw [add_add] at hc
   rw [hc]
   have : j < q.l.length := by rw [hlen]; exact hj
   rw [List.getD_eq_getElem?_getD, List.getElem?_eq_getElem this]
   rfl
  obtain ⟨q, hq⟩ := choose_lt each
  refine ⟨some a, len, cap, .of q, rfl, sat_ofH a 7 len _ (by decide) fun i hi j hj => ?_⟩
  exact hq i hi j hj
end Go.Proofs.Ytfbbagnpdfafjaa
set_option maxRecDepth 100000
namespace Go.Proofs.Ytfbbagnpdfafjaa
open Go.Joins Go.ChangeShapes Go.WideShapes Go.ChangeAt Go.RowKit Go.Deep Go.Proofs
theorem trod_array2 {H : Type} {enc : TypeId × Value → H} {P : Program} {w : World} {base : Nat} {spare : Nat → Bool} {held : Bool} {t e : TypeId} {fuel : Nat} {c0 c1 : Value} {x : DataW H × List MemPlace} (ht : P.underlying t = some (.array 2 e)) (hce : P.cellsOf e = 1)
  (h : DataW.trod enc P w base spare held fuel t [c0, c1] = some x) :
  ∃ y0 y1 n, x = (.agg [y0.1, y1.1], y0.2 ++ y1.2) ∧ DataW.trod enc P w base spare held n e [c0] = some y0 ∧ DataW.trod enc P w base spare held n e [c1] = some y1 := by
 cases fuel with
 | zero => simp [DataW.trod] at h
 | succ n =>
  unfold DataW.trod at h
  rw [ht] at h
  have r2 : List.range 2 = [0, 1] := rfl
  simp [r2, hce] at h
  obtain ⟨_, h⟩ := h
  cases h0 : DataW.trod enc P w base spare held n e [c0] with
  | none => simp [h0] at h
  | some y0 =>
   cases h1 : DataW.trod enc P w base spare held n e [c1] with
   | none => simp [h0, h1] at h
   | some y1 =>
    simp [h0, h1] at h
    exact ⟨y0, y1, n, h.symm, h0, h1⟩
theorem open_arrH2 {H : Type} {enc : TypeId × Value → H} {W : World} {v : Value} {d : DataW H} {ps : List MemPlace} {r : Reach} {b0 : Nat} (hval : Value.okWide Try.prog W r b0 89 v) (h : DataW.Trod enc Try.prog W 0 (fun _ => true) true 89 v d ps) :
  ∃ f : Int → Int, v = arrv 2 (fun i => .int .i64 (f i)) := by
 have h0 : ∃ cs, v = .agg cs ∧ cs.size = Try.prog.cellsOf 89 := by
  simp only [Value.okWide, Try.underlying89] at hval
  obtain ⟨cs, h1, h2, _⟩ := hval
  exact ⟨cs, h1, h2⟩
 obtain ⟨cs, rfl, hsz⟩ := h0
 obtain ⟨c0, c1, rfl⟩ := array2 (hsz.trans (by kernel_rfl))
 obtain ⟨fuel, hf⟩ := h
 obtain ⟨y0, y1, n, _, h0, h1⟩ := trod_array2 Try.underlying89 (by kernel_rfl) hf
 obtain ⟨a, e0, _, _⟩ := DataW.trod_int Try.underlying2 h0
 obtain ⟨b, e1, _, _⟩ := DataW.trod_int Try.underlying2 h1
 simp at e0 e1
 subst e0 e1
 exact ⟨fun i => if i = 0 then a else b, rfl⟩
end Go.Proofs.Ytfbbagnpdfafjaa
