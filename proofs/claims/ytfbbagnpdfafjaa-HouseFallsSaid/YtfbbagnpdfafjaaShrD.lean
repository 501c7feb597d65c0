import Derived.Test.YtfbbagnpdfafjaaHcG
import Derived.Test.YtfbbagnpdfafjaaHaV
set_option maxRecDepth 100000
namespace Go.Proofs.Ytfbbagnpdfafjaa
open Go.RowKit Go.Proofs
def HM.stM (X : HM) (s m : Int) : HM := { X with ac := fun j => { X.ac j with cash := (X.ac j).cash + sm (fun k => (X.ac j).pos k * (X.stP s k - X.pr k)) m }, pr := fun k => if k < m then X.stP s k else X.pr k }
theorem stM_zero (X : HM) (s : Int) {R : List (Option Blk)} {K : GK} {pb ab cb : Option Blk} {qb : Nat → Option Blk} (h : GRo R X K pb ab cb qb) : GRo R (X.stM s 0) K pb ab cb qb := by
 refine ⟨h.pr.congr fun m m0 _ => ?_, h.ar.congr fun j _ _ => ?_, h.cr, h.qr, h.ms, h.vv⟩
 ·show iv (X.pr m) = iv (if m < 0 then _ else X.pr m)
  rw [if_neg (by omega)]
 ·show gacL (X.ac j) _ _ _ = gacL { X.ac j with cash := (X.ac j).cash + 0 } _ _ _
  rw [Int.add_zero]
  rfl
theorem stM_mkd (X : HM) (s m : Int) (m0 : 0 ≤ m) : (X.stM s m).mkd m (X.stP s m) = X.stM s (m + 1) := by
 unfold HM.mkd HM.stM HM.mkA
 simp only [HM.mk.injEq, true_and, and_true]
 refine ⟨?_, ?_⟩
 ·funext k
  unfold upd
  by_cases e : k = m
  ·rw [if_pos e, if_pos (by omega), e]
  ·rw [if_neg e]
   dsimp only
   by_cases c : k < m
   ·rw [if_pos c, if_pos (by omega)]
   ·rw [if_neg c, if_neg (by omega)]
 ·funext j
  have h1 := sm_succ (fun k => (X.ac j).pos k * (X.stP s k - X.pr k)) (k := m) m0
  rw [h1, if_neg (Int.lt_irrefl m)]
  simp only [HA.mk.injEq, and_true]
  omega
theorem st_sum {X : HM} (hX : GG X) {s j : Int} (hs : X.hasS s) (j0 : 0 ≤ j) (j1 : j < X.mem) (k : Int) (k0 : 0 ≤ k) (k1 : k ≤ 12) : -36000000000000 ≤ sm (fun m => (X.ac j).pos m * (X.stP s m - X.pr m)) k ∧ sm (fun m => (X.ac j).pos m * (X.stP s m - X.pr m)) k ≤ 36000000000000 := by
 have h := sm_abs (f := fun m => (X.ac j).pos m * (X.stP s m - X.pr m)) (k := k) 3000000000000 k0 fun m m0 m1 => by
  have e1 := hX.g.pos j j0 j1 m m0 (by omega)
  have e2 := stP_rng hX.g hs m0 (show m < 12 by omega)
  have e3 := hX.g.pr m m0 (by omega)
  exact mulAbs (A := 1000000) (B := 3000000) (by omega) (by omega)
 omega
theorem gStress_any (X : HM) (K : GK) (s : Int) (R : List (Option Blk)) (B : Nat) (H : List (Option Blk)) (w0 w : World) (hO : Own B w0 w H) (hK : GIn R X K) (hs : R.Sublist H) (hX : GG X) (hS : X.hasS s) :
  Calls Try.prog 86 #[.agg (ghL X K).toArray, iv s] w fun e w' => ∃ v c, e = .returned v ∧ IRow v 2 X.mem (fun j => iv (X.stA s j)) c ∧ Own B w0 w' (c :: H) := by
 have hG := hX.g
 have hmem := hG.mem
 have hmo := hG.mo
 have hmo1 := hX.mo
 have hmn := X.mn_eq hX.mo
 have hS2 : 0 ≤ s ∧ s < X.k := hS
 have hmv := hG.mv s hS2.1 hS2.2
 have hk64 := hG.k
 obtain ⟨pb0, po0, ep0, rp0⟩ := hK.pv.at (hO.sub hs) (by omega)
 obtain ⟨mb, mo', em, rm⟩ := hK.ms.at (hO.sub hs) (by omega)
 obtain ⟨vb, vo, ev, rv⟩ := (hK.vv s hS2.1 hS2.2).at (hO.sub hs) (by omega)
 refine calls_of_run (F := [(0, _), (1, _)]) Try.func86 rfl Try.ntmps86 rfl rfl <| run_seq <| run_region <| rl_ow rfl (ow_box _ rfl rfl rfl rfl rfl hO) ?_
 rintro _ w1 ⟨b2, rfl, hO2, hs3⟩
 refine rl_v rfl rfl rfl (ov_assign rfl rfl) <| rl_nil <| run_seq <| run_region <| rl_v rfl rfl rfl (ov_loadW rfl Try.underlying34 rfl (by kernel_rfl) rfl hO2 0 rfl) ?_
 refine rl_call callable_118 rfl rfl rfl rfl rfl rfl (gFork_any X K R B _ w0 w1 hO2 hK (.cons _ hs) hX) (fun e4 w5 hp6 => ?_)
 obtain ⟨L, pb, ab, cb, qb, rfl, hL, hO2⟩ := hp6
 refine ⟨_, rfl, ?_⟩
 refine rl_ow rfl (ow_alloc _ rfl rfl rfl zero_34 rfl hO2) ?_
 rintro _ w7 ⟨b5, rfl, hO8, hs9⟩
 refine rl_ow rfl (ow_storeW rfl rfl (by kernel_rfl) hO8 0 rfl rfl (by rfl) rfl (by rfl)) ?_
 rintro _ w10 ⟨rfl, hO11, hs12⟩
 have hO3 : Own B w0 w10 (some (lch b5 34 (ghL X L)) :: ((pb :: ab :: cb :: (List.range X.mem).map qb) ++ (some (lch b2 34 (ghL X K)) :: H))) := hO11
 have hO4 : Own B w0 w10 (GL X pb ab cb qb (some (lch b5 34 (ghL X L)) :: some (lch b2 34 (ghL X K)) :: H)) := hO3.perm List.perm_middle.symm
 refine rl_nil <| run_seq <| run_seq <| run_region <| rl_v rfl rfl rfl (ov_assign rfl rfl) <| rl_nil <| run_block <| Run.keep [1, 2, 5, 6] (F' := [(1, _), (2, _), (5, _), (6, _)]) rfl <| run_loop3 (fun (m : Int) (pb : Option Blk) (ab : Option Blk) => [(6, .int .i64 m)]) [1, 2, 5] (fun (m : Int) (pb : Option Blk) (ab : Option Blk) (w13 : World) => (0 ≤ m ∧ m ≤ X.mo) ∧ GRo R (X.stM s m) L pb ab cb qb ∧ Own B w0 w13 (GL X pb ab cb qb (some (lch b5 34 (ghL X L)) :: some (lch b2 34 (ghL X K)) :: H))) (fun (m : Int) (pb : Option Blk) (ab : Option Blk) => (X.mo - m).toNat) (0) (pb) (ab) ?_ (And.intro (by exact slot_int rfl (by first | omega)) (And.intro rfl (And.intro rfl (And.intro rfl trivial)))) ?_
 ·exact ⟨by omega, stM_zero X s hL, hO4⟩
 intro m pb ab w13 hIw13 ih14
 obtain ⟨hm, hLm, hO5⟩ := hIw13
 show Run _ _ _ _ [(6, _), (1, _), (2, _), (5, _)] _ _
 refine run_seq <| run_seq <| run_region <| rl_v rfl rfl rfl (ov_move rfl rfl) <| rl_v rfl rfl rfl (ov_fieldS rfl Try.underlying34 rfl (fo := 6) rfl (by kernel_rfl) rfl) ?_
 refine rl_v rfl rfl rfl (ov_load rfl Try.underlying22 rfl rfl (by exact hO5.cellL (X.mem + 0 + 3) (get_aft3 0 rfl) (off := 6) rfl)) ?_
 refine rl_v rfl rfl rfl (ov_len rfl Try.underlying22 rfl) <| rl_v rfl rfl rfl (ov_lss rfl rfl rfl) <| rl_nil ?_
 first | refine run_cond_dec rfl (fun h1 => ?_) (fun h1 => ?_) | refine run_cond rfl (fun h1 => ?_) (fun h1 => ?_)
 ·have hpm := hG.pr m hm.1 (by omega)
  have hmm := hmv m hm.1 (by omega)
  have est : max 1 (X.pr m + X.mv s m) = X.stP s m := by unfold HM.stP; rw [if_pos (by omega)]
  refine run_skip <| run_seq <| run_block <| run_late (fun w' => Own B w0 w' (some (lch b5 34 (ghL X L)) :: some (lch b2 34 (ghL X K)) :: H)) 19 mixed ?_
  have hO16 := hO5.drew
  generalize World.drew w13 = w15 at hO16 ⊢
  have hS17 : Own B w0 w15 (some (lch b5 34 (ghL X L)) :: some (lch b2 34 (ghL X K)) :: H) := by exact hO16.sub (sub_aft (.refl _))
  refine rhl_v 0 rfl (by kernel_rfl) rfl rfl rfl hS17 (fun _ hS => ov_loadW rfl Try.underlying34 rfl (by kernel_rfl) rfl hS 0 rfl) ?_
  refine rhl_v 1 rfl (by kernel_rfl) rfl rfl rfl hS17 (fun _ hS => ov_move rfl rfl) ?_
  refine rhl_v 2 rfl (by kernel_rfl) rfl rfl rfl hS17 (fun _ hS => ov_fieldS rfl Try.underlying34 rfl (fo := 6) rfl (by kernel_rfl) rfl) ?_
  refine rhl_v 3 rfl (by kernel_rfl) rfl rfl rfl hS17 (fun _ hS => ov_load rfl Try.underlying22 rfl rfl (by exact hS.cellL 1 rfl (off := 6) rfl)) ?_
  refine rhl_v 4 rfl (by kernel_rfl) rfl rfl rfl hS17 (fun _ hS => ov_move rfl rfl) ?_
  refine rhl_v 5 rfl (by kernel_rfl) rfl rfl rfl hS17 (fun _ hS => ov_index1 rfl Try.underlying22 (by kernel_rfl) rfl rfl ⟨by omega, by omega⟩ (by exact (id ep0))) ?_
  refine rhl_v 6 rfl (by kernel_rfl) rfl rfl rfl hS17 (fun _ hS => ov_load rfl Try.underlying2 rfl rfl (by exact rp0 (hS.sub (.cons _ (.cons _ hs))) m hm.1 (by omega))) ?_
  refine rhl_v 7 rfl (by kernel_rfl) rfl rfl rfl hS17 (fun _ hS => ov_fieldS rfl Try.underlying34 rfl (fo := 0) rfl (by kernel_rfl) rfl) ?_
  refine rhl_v 8 rfl (by kernel_rfl) rfl rfl rfl hS17 (fun _ hS => ov_fieldS rfl Try.underlying25 rfl (fo := 3) rfl (by kernel_rfl) rfl) ?_
  refine rhl_v 9 rfl (by kernel_rfl) rfl rfl rfl hS17 (fun _ hS => ov_load rfl Try.underlying23 rfl rfl (by exact hS.cellL 1 rfl (off := 3) rfl)) ?_
  refine rhl_v 10 rfl (by kernel_rfl) rfl rfl rfl hS17 (fun _ hS => ov_move rfl rfl) ?_
  refine rhl_v 11 rfl (by kernel_rfl) rfl rfl rfl hS17 (fun _ hS => ov_index1 rfl Try.underlying23 (by kernel_rfl) rfl rfl hS2 (by exact (id em))) ?_
  refine rhl_v 12 rfl (by kernel_rfl) rfl rfl rfl hS17 (fun _ hS => ov_load rfl Try.underlying22 rfl rfl (by exact rm (hS.sub (.cons _ (.cons _ hs))) s hS2.1 hS2.2)) ?_
  refine rhl_v 13 rfl (by kernel_rfl) rfl rfl rfl hS17 (fun _ hS => ov_move rfl rfl) ?_
  refine rhl_v 14 rfl (by kernel_rfl) rfl rfl rfl hS17 (fun _ hS => ov_index1 rfl Try.underlying22 (by kernel_rfl) rfl rfl ⟨by omega, by omega⟩ (by exact (id ev))) ?_
  refine rhl_v 15 rfl (by kernel_rfl) rfl rfl rfl hS17 (fun _ hS => ov_load rfl Try.underlying2 rfl rfl (by exact rv (hS.sub (.cons _ (.cons _ hs))) m hm.1 (by omega))) ?_
  refine rhl_v 16 rfl (by kernel_rfl) rfl rfl rfl hS17 (fun _ hS => ov_add rfl rfl rfl (by omega)) ?_
  refine rhl_v 17 rfl (by kernel_rfl) rfl rfl rfl hS17 (fun _ hS => ov_max rfl rfl rfl) ?_
  refine rhl_any1 18 (by kernel_rfl) ?_
  refine rcl_op rfl rfl (ow_call2 callable_123 rfl rfl rfl rfl rfl (gMark0_any (X.stM s m) L m (max 1 (X.pr m + X.mv s m)) R pb ab cb qb B _ w0 w15 hO16 hLm hmem (by show 1 ≤ X.mo ∧ X.mo ≤ 12; omega) (by show 0 ≤ m ∧ m < X.mo; omega) (fun j j0 j1 => hG.pos j j0 j1 m hm.1 (by omega)) (fun j j0 j1 => by have h1 := hG.cash j j0 j1; have h2 := st_sum hX hS j0 j1 m hm.1 (by omega); show ((X.ac j).cash + sm (fun k => (X.ac j).pos k * (X.stP s k - X.pr k)) m).natAbs ≤ _; omega) (by omega) (by show 0 ≤ (if m < m then _ else X.pr m) ∧ (if m < m then _ else X.pr m) ≤ _; rw [if_neg (Int.lt_irrefl m)]; omega)) (by intro e w' hp; obtain ⟨rfl, pb2, ab2, hL2, hOc⟩ := hp; exact ⟨_, rfl⟩)) ?_
  rintro _ w20 ⟨_, v18, he21, rfl, hp19⟩
  obtain ⟨rfl, pb2, ab2, hL2, hOc⟩ := hp19
  injection he21 with he21; subst he21
  rw [est, stM_mkd X s m hm.1] at hL2
  replace hOc : Own B w0 w20 (GL X pb2 ab2 cb qb (some (lch b5 34 (ghL X L)) :: some (lch b2 34 (ghL X K)) :: H)) := hOc
  have hS22 : Own B w0 w20 (some (lch b5 34 (ghL X L)) :: some (lch b2 34 (ghL X K)) :: H) := by exact hOc.sub (sub_aft (.refl _))
  refine ⟨hS22, ?_⟩
  refine rhl_any1 19 (by kernel_rfl) ?_
  refine rcl_last rfl rfl (ow_storeW rfl rfl (by kernel_rfl) hOc (X.mem + 0 + 3) ((get_aft3 0 rfl)) rfl (by rfl) rfl (by rfl)) ?_
  rintro _ w23 ⟨rfl, hO24, hs25⟩
  have hO6 := Own.setAft (m := X.mem) (k := 0) (qb := qb) (a := pb2) (b := ab2) (c := cb) (T := some (lch b5 34 (ghL X L)) :: some (lch b2 34 (ghL X K)) :: H) hO24
  refine rhl_done (by kernel_rfl) ?_
  refine run_inBlock <| run_region <| rl_v rfl rfl rfl (ov_move rfl rfl) <| rl_v rfl rfl rfl (ov_add rfl rfl rfl (by omega)) ?_
  refine rl_v rfl rfl rfl (ov_assign rfl rfl) <| rl_nil ?_
  refine Run.use (ih14 (m + 1) (pb2) (ab2) _ ?_ ?_) (And.intro (by exact slot_int rfl (by first | omega)) (And.intro rfl (And.intro rfl (And.intro rfl trivial))))
  ·first | omega | (dsimp only; omega)
  ·exact ⟨by omega, hL2, hO6⟩
 ·obtain rfl : m = X.mo := by omega
  obtain ⟨Y, hY⟩ : ∃ Y, Y = X.stM s X.mo := ⟨_, rfl⟩
  rw [← hY] at hLm
  have hYp : Y.pr = X.stP s := by rw [hY]; funext k; show (if k < X.mo then X.stP s k else X.pr k) = X.stP s k; split; rfl; (rename_i h; unfold HM.stP; rw [if_neg h])
  have hYd : Y.mem = X.mem ∧ Y.mo = X.mo ∧ Y.k = X.k ∧ Y.mv = X.mv ∧ Y.rate = X.rate ∧ Y.mn = X.mn := by rw [hY]; exact ⟨rfl, rfl, rfl, rfl, rfl, rfl⟩
  have hYa : ∀ j : Int, (Y.ac j).pos = (X.ac j).pos := fun j => by rw [hY]; rfl
  have hYc : ∀ j : Int, 0 ≤ j → j < X.mem → (Y.ac j).cash = X.stC s (X.ac j) := fun j j0 j1 => by
   rw [hY]
   show (X.ac j).cash + sm (fun k => (X.ac j).pos k * (X.stP s k - X.pr k)) X.mo = _
   unfold HM.stC
   rw [sm_flat12 (f := fun m => (X.ac j).pos m * (X.stP s m - X.pr m)) (n := X.mo) (by omega) (by omega) fun m hm => by rw [hX.fl j j0 j1 m hm, Int.zero_mul]]
  have hYn : ∀ j : Int, Y.need (Y.ac j) = marF X.mv X.k X.rate (X.ac j).pos (X.stP s) := fun j => by unfold HM.need; rw [hYd.2.2.1, hYd.2.2.2.1, hYd.2.2.2.2.1, hYp, hYa]
  have hW : GW Y := ⟨by rw [hYd.1]; exact hmem, by rw [hYd.2.1]; exact hmo, by rw [hYd.2.1]; exact hmo1, by rw [hYd.2.2.1]; exact hk64, by rw [hYd.2.2.1, hYd.2.2.2.1]; exact hG.mv, by rw [hYd.2.2.2.2.1]; exact hG.rate, by rw [hYd.1]; exact fun j j0 j1 => by rw [hYa]; exact hG.pos j j0 j1, by rw [hYp]; exact ⟨fun m m0 m1 => stP_rng hG hS m0 m1⟩, by rw [hYd.1, hYd.2.1]; exact fun j j0 j1 => by rw [hYa]; exact hX.fl j j0 j1⟩
  have hYg : ∀ T, GL X pb ab cb qb T = GL Y pb ab cb qb T := fun T => by unfold GL; rw [hYd.1]
  have hYv : ghL X L = ghL Y L := by rw [hY]; rfl
  have hO7 := hO5
  rw [hYg, hYv] at hO7
  have hgin := hLm.gin (H := some (lch b5 34 (ghL Y L)) :: some (lch b2 34 (ghL X K)) :: H) (.cons _ (.cons _ hs))
  obtain ⟨xb, xo, ex, rx⟩ := hgin.av.at (by decide) hO7 (by rw [hYd.1]; omega)
  refine run_exit rfl <| run_seq <| run_region <| rl_v rfl rfl rfl (ov_assign rfl rfl) <| rl_nil <| run_seq <| run_seq <| run_region <| rl_v rfl rfl rfl (ov_assign rfl rfl) <| rl_nil <| run_block <| Run.keep [5, 7, 8] (F' := [(5, _), (7, _), (8, _)]) rfl <| run_loop4 (fun (i : Int) (n : Nat) (v : Value) (c : Option Blk) => [(7, v), (8, .int .i64 i)]) [5] (fun (i : Int) (n : Nat) (v : Value) (c : Option Blk) (w26 : World) => i = (n : Int) + 1 ∧ n ≤ X.mem ∧ IRow v 2 n (fun j => iv (X.stA s j)) c ∧ Own B w0 w26 (c :: GL Y pb ab cb qb (some (lch b5 34 (ghL Y L)) :: some (lch b2 34 (ghL X K)) :: H))) (fun (i : Int) (n : Nat) (v : Value) (c : Option Blk) => X.mem - n) (1) (0) (.slice none 0 0) (none) ?_ (And.intro rfl (And.intro (by exact slot_int rfl (by first | omega)) (And.intro rfl trivial))) ?_
  ·exact ⟨rfl, by omega, IRow.nil _ _, hO7.nil_cons⟩
  intro i n v c w26 hIw26 ih27
  obtain ⟨hi, hn, hrw, hO8⟩ := hIw26
  show Run _ _ _ _ [(7, _), (8, _), (5, _)] _ _
  refine run_seq <| run_seq <| run_region <| rl_v rfl rfl rfl (ov_move rfl rfl) <| rl_v rfl rfl rfl (ov_fieldS rfl Try.underlying34 rfl (fo := 7) rfl (by kernel_rfl) rfl) ?_
  refine rl_v rfl rfl rfl (ov_load rfl Try.underlying31 rfl rfl (by exact hO8.cellL (Y.mem + 0 + 4) (get_aft4 0 rfl) (off := 7) rfl)) ?_
  refine rl_v rfl rfl rfl (ov_len rfl Try.underlying31 rfl) <| rl_v rfl rfl rfl (ov_leq rfl rfl rfl) <| rl_nil ?_
  first | refine run_cond_dec rfl (fun h2 => ?_) (fun h2 => ?_) | refine run_cond rfl (fun h2 => ?_) (fun h2 => ?_)
  ·have hi1 : 1 ≤ i ∧ i ≤ (Y.mem : Int) := by omega
   have hcs := hYc (i - 1) (by omega) (by omega)
   have hcb := hG.cash (i - 1) (by omega) (by omega)
   have hsb := st_sum hX hS (j := i - 1) (by omega) (by omega) 12 (by decide) (by decide)
   have hps : Bd (X.ac (i - 1)).pos 2000000 := (hG.pos (i - 1) (by omega) (by omega)).mono (by decide)
   have hmar : 0 ≤ marF X.mv X.k X.rate (X.ac (i - 1)).pos (X.stP s) ∧ marF X.mv X.k X.rate (X.ac (i - 1)).pos (X.stP s) ≤ 100000000000000 := marF_rng (r := X.r ⟨none, 0, 0, 0, none, 0, none⟩) (hG.bd _) hps ⟨fun m m0 m1 => stP_rng hG hS m0 m1⟩
   have hst : X.stC s (X.ac (i - 1)) = (X.ac (i - 1)).cash + sm (fun m => (X.ac (i - 1)).pos m * (X.stP s m - X.pr m)) 12 := rfl
   refine run_skip <| run_seq <| run_block <| run_held (fun w' => Own B w0 w' (GL Y pb ab cb qb (some (lch b5 34 (ghL Y L)) :: some (lch b2 34 (ghL X K)) :: H))) mixed ?_
   have hO29 := hO8.drew
   generalize World.drew w26 = w28 at hO29 ⊢
   have hS30 : Own B w0 w28 (GL Y pb ab cb qb (some (lch b5 34 (ghL Y L)) :: some (lch b2 34 (ghL X K)) :: H)) := by first | exact hO29.tail | exact hO29.tail.tail
   refine rh_v 0 rfl (by kernel_rfl) rfl rfl rfl hS30 (fun _ hS => ov_move rfl rfl) ?_
   refine rh_v 1 rfl (by kernel_rfl) rfl rfl rfl hS30 (fun _ hS => ov_loadW rfl Try.underlying34 rfl (by kernel_rfl) rfl hS (Y.mem+0+3) ((get_aft3 0 rfl))) ?_
   refine rh_v 2 rfl (by kernel_rfl) rfl rfl rfl hS30 (fun _ hS => ov_move rfl rfl) ?_
   refine rh_v 4 rfl (by kernel_rfl) rfl rfl rfl hS30 (fun _ hS => ov_fieldS rfl Try.underlying34 rfl (fo := 7) rfl (by kernel_rfl) rfl) ?_
   refine rh_v 5 rfl (by kernel_rfl) rfl rfl rfl hS30 (fun _ hS => ov_load rfl Try.underlying31 rfl rfl (by exact hS.cellL (Y.mem + 0 + 3) (get_aft3 0 rfl) (off := 7) rfl)) ?_
   refine rh_v 6 rfl (by kernel_rfl) rfl rfl rfl hS30 (fun _ hS => ov_move rfl rfl) ?_
   refine rh_v 7 rfl (by kernel_rfl) rfl rfl rfl hS30 (fun _ hS => ov_sub rfl rfl rfl (by omega)) ?_
   refine rh_v 8 rfl (by kernel_rfl) rfl rfl rfl hS30 (fun _ hS => ov_index rfl Try.underlying31 (by kernel_rfl) (s := 4) rfl rfl ⟨by omega, by omega⟩ (by exact (id ex))) ?_
   refine rh_v 9 rfl (by kernel_rfl) rfl rfl rfl hS30 (fun _ hS => ov_fieldS rfl Try.underlying49 rfl (fo := 0) rfl (by kernel_rfl) rfl) ?_
   refine rh_v 10 rfl (by kernel_rfl) rfl rfl rfl hS30 (fun _ hS => ov_load rfl Try.underlying2 rfl rfl (by exact (show _ = some (iv (Y.ac (i - 1)).cash) from rx hS (i - 1) (by omega) (by omega) 0 (by decide)))) ?_
   refine rh_any1 3 (by kernel_rfl) ?_
   refine rc_op rfl rfl (ow_call2 callable_85 rfl rfl rfl rfl rfl (gMargin_any Y L i _ B _ w0 w28 hO29 hgin (.cons _ (.refl _)) hW hi1) (by intro e w' hp; obtain ⟨rfl, hOm⟩ := hp; exact ⟨_, rfl⟩)) ?_
   rintro _ w33 ⟨_, v31, he34, rfl, hp32⟩
   obtain ⟨rfl, hOm⟩ := hp32
   injection he34 with he34; subst he34
   have hS35 : Own B w0 w33 (GL Y pb ab cb qb (some (lch b5 34 (ghL Y L)) :: some (lch b2 34 (ghL X K)) :: H)) := by first | exact hOm.tail | exact hOm.tail.tail
   refine ⟨hS35, ?_⟩
   refine rh_v 11 rfl (by kernel_rfl) rfl rfl rfl hS35 (fun _ hS => ov_sub rfl rfl rfl (by show _ ≤ Y.need (Y.ac (i - 1)) - (Y.ac (i - 1)).cash ∧ Y.need (Y.ac (i - 1)) - (Y.ac (i - 1)).cash ≤ _; rw [hYn, hcs]; omega)) ?_
   refine rh_v 12 rfl (by kernel_rfl) rfl rfl rfl hS35 (fun _ hS => ov_max rfl rfl rfl) ?_
   refine rh_any1 13 (by kernel_rfl) ?_
   refine rc_op rfl rfl (ow_one rfl rfl rfl Try.underlying22 info_2 rfl hOm rfl rfl) ?_
   rintro _ w36 ⟨b57, rfl, hO37, hs38⟩
   have hS39 : Own B w0 w36 (GL Y pb ab cb qb (some (lch b5 34 (ghL Y L)) :: some (lch b2 34 (ghL X K)) :: H)) := by first | exact hO37.tail | exact hO37.tail.tail
   refine ⟨hS39, ?_⟩
   refine rh_any1 14 (by kernel_rfl) ?_
   refine rc_op rfl rfl (ow_app1 rfl rfl rfl Try.underlying22 info_2 rfl hO37 0 hrw rfl rfl rfl rfl ⟨by omega, by omega⟩) ?_
   rintro _ w40 ⟨v2, c2, rfl, hO41, hr2, hs42⟩
   have hS43 : Own B w0 w40 (GL Y pb ab cb qb (some (lch b5 34 (ghL Y L)) :: some (lch b2 34 (ghL X K)) :: H)) := by first | exact hO41.tail | exact hO41.tail.tail
   refine ⟨hS43, ?_⟩
   have hO9 := hO41
   refine rh_v 15 rfl (by kernel_rfl) rfl rfl rfl hS43 (fun _ hS => ov_assign rfl rfl) ?_
   refine rh_done (by kernel_rfl) ?_
   refine run_inBlock <| run_region <| rl_v rfl rfl rfl (ov_move rfl rfl) <| rl_v rfl rfl rfl (ov_add rfl rfl rfl (by omega)) ?_
   refine rl_v rfl rfl rfl (ov_assign rfl rfl) <| rl_nil ?_
   refine Run.use (ih27 (i + 1) (n + 1) (v2) (c2) _ ?_ ?_) (And.intro rfl (And.intro (by exact slot_int rfl (by first | omega)) (And.intro rfl trivial)))
   ·first | omega | (dsimp only; omega)
   ·exact ⟨by omega, by omega, hr2.congr fun j j0 j1 => (by unfold upd; split; (rename_i e; show iv (max 0 (Y.need (Y.ac (i - 1)) - (Y.ac (i - 1)).cash)) = _; rw [hYn, hcs, show i - 1 = j by omega]; rfl); rfl), hO9⟩
  ·obtain rfl : X.mem = n := by omega
   refine run_exit rfl <| run_seq <| run_region <| rl_v rfl rfl rfl (ov_move rfl rfl) <| rl_v rfl rfl rfl (ov_assign rfl rfl) <| rl_nil <| run_ret Try.func86 (res1 Try.results86 rfl) ?_
   exact ⟨v, c, rfl, hrw, hO8.sub (.cons_cons _ (sub_aft (.cons _ (.cons _ (.refl _)))))⟩
end Go.Proofs.Ytfbbagnpdfafjaa
set_option maxRecDepth 100000
namespace Go.Proofs.Ytfbbagnpdfafjaa
open Go.RowKit Go.Proofs
structure Pk (q re : Int → Int) (n k : Int) (out rest : Int → Int) : Prop where
 st : ∀ i : Int, 0 ≤ i → i < n → (rest i = re i ∧ out i = q i) ∨ (rest i = -1 ∧ out i = q i + 1)
 ord : ∀ i j : Int, 0 ≤ i → i < n → 0 ≤ j → j < n → rest i = -1 → rest j ≠ -1 → Bf re i j
 sum : sm out n = sm q n + k
theorem Pk.init {q re : Int → Int} {n : Int} (hre : ∀ i : Int, 0 ≤ i → i < n → 0 ≤ re i) : Pk q re n 0 q re :=
 ⟨fun i _ _ => .inl ⟨rfl, rfl⟩, fun i j i0 i1 _ _ h _ => by have := hre i i0 i1; omega, by omega⟩
def Gr (rest : Int → Int) (n b : Int) : Prop := (0 ≤ b ∧ b < n) ∧ ∀ j : Int, 0 ≤ j → j < n → rest j < rest b ∨ rest j = rest b ∧ b ≤ j
theorem Gr.init {rest : Int → Int} : Gr rest 1 0 := ⟨by omega, fun j j0 j1 => by rw [show j = 0 by omega]; omega⟩
theorem Gr.up {rest : Int → Int} {i b : Int} (h : Gr rest i b) (c : rest b < rest i) : Gr rest (i + 1) i :=
 ⟨by have := h.1; omega, fun j j0 j1 => by
  by_cases e : j = i
  ·rw [e]; omega
  ·have := h.2 j j0 (by omega); omega⟩
theorem Gr.same {rest : Int → Int} {i b : Int} (h : Gr rest i b) (c : ¬ rest b < rest i) : Gr rest (i + 1) b :=
 ⟨by have := h.1; omega, fun j j0 j1 => by
  by_cases e : j = i
  ·rw [e]; have := h.1; omega
  ·exact h.2 j j0 (by omega)⟩
theorem Pk.free {q re out rest : Int → Int} {n k : Int} (h : Pk q re n k out rest) (hre : ∀ i : Int, 0 ≤ i → i < n → 0 ≤ re i) (n0 : 0 ≤ n) (hk : k < n) : ∃ j : Int, (0 ≤ j ∧ j < n) ∧ rest j ≠ -1 := by
 refine Classical.byContradiction fun hx => ?_
 have hall : ∀ i : Int, 0 ≤ i → i < n → rest i = -1 := fun i i0 i1 => Classical.byContradiction fun e => hx ⟨i, ⟨i0, i1⟩, e⟩
 have e : sm out n = sm (fun i => q i + 1) n := sm_congr fun i i0 i1 => by
  rcases h.st i i0 i1 with c | c
  ·have h1 := hall i i0 i1
   have h2 := hre i i0 i1
   omega
  ·exact c.2
 rw [sm_add, sm_const 1 n0, h.sum] at e
 omega
theorem Pk.step {q re out rest : Int → Int} {n k b : Int} (h : Pk q re n k out rest) (hre : ∀ i : Int, 0 ≤ i → i < n → 0 ≤ re i) (n0 : 0 ≤ n) (hk : k < n) (hb : Gr rest n b) : Pk q re n (k + 1) (upd out b (out b + 1)) (upd rest b (-1)) ∧ rest b ≠ -1 := by
 obtain ⟨j0, hj, hj1⟩ := h.free hre n0 hk
 have hnb : rest b ≠ -1 := fun e => by
  rcases h.st j0 hj.1 hj.2 with c | c
  ·have h1 := hb.2 j0 hj.1 hj.2
   have h2 := hre j0 hj.1 hj.2
   omega
  ·exact hj1 c.1
 have hbst : rest b = re b ∧ out b = q b := by
  rcases h.st b hb.1.1 hb.1.2 with c | c
  ·exact c
  ·exact absurd c.1 hnb
 refine ⟨⟨fun i i0 i1 => ?_, fun i j i0 i1 j0 j1 hi hj => ?_, ?_⟩, hnb⟩
 ·by_cases e : i = b
  ·rw [e, upd_same, upd_same, hbst.2]
   exact .inr ⟨rfl, rfl⟩
  ·rw [upd_ne _ _ e, upd_ne _ _ e]
   exact h.st i i0 i1
 ·have hjb : j ≠ b := fun e => by rw [e, upd_same] at hj; exact hj rfl
  rw [upd_ne _ _ hjb] at hj
  have hjs : rest j = re j := by
   rcases h.st j j0 j1 with c | c
   ·exact c.1
   ·exact absurd c.1 hj
  by_cases e : i = b
  ·rw [e]
   have h1 := hb.2 j j0 j1
   unfold Bf
   omega
  ·rw [upd_ne _ _ e] at hi
   exact h.ord i j i0 i1 j0 j1 hi hj
 ·rw [sm_upd _ _ _ hb.1.1 hb.1.2, h.sum]
  omega
theorem Pk.shr {total : Int} {n : Nat} {W out rest : Int → Int} {left : Int} (hS : sm W n ≠ 0) (hl : left = total - sm (fun i => total * W i / sm W n) n) (hre : ∀ i : Int, 0 ≤ i → i < n → 0 ≤ total * W i % sm W n) (h : Pk (fun i => total * W i / sm W n) (fun i => total * W i % sm W n) n left out rest) : Shr total n W out := by
 refine ⟨by rw [if_neg hS, h.sum, hl]; omega, fun i i0 i1 => ?_, fun i j i0 i1 j0 j1 ei ej => ?_⟩
 ·rcases h.st i i0 i1 with c | c
  ·exact .inl c.2
  ·exact .inr c.2
 ·have hi : rest i = -1 := by
   rcases h.st i i0 i1 with c | c
   ·have := c.2; omega
   ·exact c.1
  have hj : rest j ≠ -1 := by
   rcases h.st j j0 j1 with c | c
   ·have := hre j j0 j1
    have := c.1
    omega
   ·have := c.2; omega
  exact h.ord i j i0 i1 j0 j1 hi hj
end Go.Proofs.Ytfbbagnpdfafjaa
