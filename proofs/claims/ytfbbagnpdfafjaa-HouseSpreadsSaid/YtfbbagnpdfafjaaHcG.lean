import Derived.Test.YtfbbagnpdfafjaaHcF
set_option maxRecDepth 100000
namespace Go.Proofs.Ytfbbagnpdfafjaa
open Go.RowKit Go.Proofs
def HM.mkd (X : HM) (m p : Int) : HM := { X with ac := fun j => X.mkA m p (X.ac j), pr := upd X.pr m p }
def HM.mkI (X : HM) (m p i : Int) : HM := { X with ac := fun j => if j < i then X.mkA m p (X.ac j) else X.ac j }
theorem GRo.acs {R : List (Option Blk)} {X : HM} {K : GK} {pb ab cb : Option Blk} {qb : Nat → Option Blk} {f g : Int → HA} (h : GRo R { X with ac := f } K pb ab cb qb) (e : ∀ j : Int, 0 ≤ j → j < X.mem → f j = g j) : GRo R { X with ac := g } K pb ab cb qb := by
 refine ⟨h.pr, h.ar.congr fun j j0 j1 => ?_, h.cr, fun j hj => (h.qr j hj).congr fun m _ _ => ?_, h.ms, h.vv⟩
 ·show gacL (f j) _ _ _ = gacL (g j) _ _ _
  rw [e j j0 j1]
  rfl
 ·show iv ((f j).pos m) = iv ((g j).pos m)
  rw [e j (by omega) (by have : j < X.mem := hj; omega)]
theorem gMark0_any (X : HM) (K : GK) (m p : Int) (R : List (Option Blk)) (pb ab cb : Option Blk) (qb : Nat → Option Blk) (B : Nat) (H : List (Option Blk)) (w0 w : World) (hO : Own B w0 w (GL X pb ab cb qb H)) (hG : GRo R X K pb ab cb qb) (hmem : 1 ≤ X.mem ∧ X.mem ≤ 64) (hmo : 1 ≤ X.mo ∧ X.mo ≤ 12) (hm : 0 ≤ m ∧ m < X.mo)
  (hps : ∀ j : Int, 0 ≤ j → j < X.mem → ((X.ac j).pos m).natAbs ≤ 1000000) (hcs : ∀ j : Int, 0 ≤ j → j < X.mem → ((X.ac j).cash).natAbs ≤ 20000000000000000) (hp : 0 ≤ p ∧ p ≤ 3000000) (hpr : 0 ≤ X.pr m ∧ X.pr m ≤ 3000000) :
  Calls Try.prog 123 #[.agg (ghL X K).toArray, iv m, iv p] w fun e w' => e = .returned (.agg (ghL X K).toArray) ∧ ∃ pb' ab', GRo R (X.mkd m p) K pb' ab' cb qb ∧ Own B w0 w' (GL X pb' ab' cb qb H) := by
 obtain ⟨a0, ea, hcap⟩ := hG.ar.atZero hmem.1
 have hmn := X.mn_eq hmo.1
 obtain ⟨p0, ep⟩ := hG.pr.addr
 have ep' := ep (by omega)
 refine calls_of_run (F := [(0, _), (1, _), (2, _)]) Try.func123 rfl Try.ntmps123 rfl rfl <| run_seq <| run_region <| rl_ow rfl (ow_box _ rfl rfl rfl rfl rfl hO) ?_
 rintro _ w1 ⟨b3, rfl, hO2, hs3⟩
 refine rl_ow rfl (ow_alloc _ rfl rfl rfl zero_34 rfl hO2) ?_
 rintro _ w4 ⟨b6, rfl, hO5, hs6⟩
 have hO2 : Own B w0 w4 (some (lch b6 34 ghz) :: some (lch b3 34 (ghL X K)) :: ((pb :: ab :: cb :: (List.range X.mem).map qb) ++ H)) := hO5
 have hO3 : Own B w0 w4 (GL X pb ab cb qb (some (lch b3 34 (ghL X K)) :: some (lch b6 34 ghz) :: H)) := hO2.perm ((List.Perm.swap _ _ _).trans ((List.Perm.cons _ List.perm_middle.symm).trans List.perm_middle.symm))
 refine rl_nil <| run_seq <| run_seq <| run_region <| rl_v rfl rfl rfl (ov_assign rfl rfl) <| rl_nil <| run_block <| Run.keep [1, 2, 3, 6, 7] (F' := [(1, _), (2, _), (3, _), (6, _), (7, _)]) rfl <| run_loop2 (fun (i : Int) (ab : Option Blk) => [(7, .int .i64 i)]) [1, 2, 3, 6] (fun (i : Int) (ab : Option Blk) (w7 : World) => (1 ≤ i ∧ i ≤ X.mem + 1) ∧ GRo R (X.mkI m p (i - 1)) K pb ab cb qb ∧ Own B w0 w7 (GL X pb ab cb qb (some (lch b3 34 (ghL X K)) :: some (lch b6 34 ghz) :: H))) (fun (i : Int) (ab : Option Blk) => ((X.mem : Int) + 1 - i).toNat) (1) (ab) ?_ (And.intro (by exact slot_int rfl (by first | omega)) (And.intro rfl (And.intro rfl (And.intro rfl (And.intro rfl trivial))))) ?_
 ·exact ⟨by omega, hG.acs (X := X) (f := X.ac) fun j j0 _ => by rw [if_neg (by omega)], hO3⟩
 intro i ab w7 hIw7 ih8
 obtain ⟨hi, hGi, hO4⟩ := hIw7
 show Run _ _ _ _ [(7, _), (1, _), (2, _), (3, _), (6, _)] _ _
 refine run_seq <| run_seq <| run_region <| rl_v rfl rfl rfl (ov_move rfl rfl) <| rl_v rfl rfl rfl (ov_fieldS rfl Try.underlying34 rfl (fo := 7) rfl (by kernel_rfl) rfl) ?_
 refine rl_v rfl rfl rfl (ov_load rfl Try.underlying31 rfl rfl (by exact hO4.cellL (X.mem + 0 + 3) (get_aft3 0 rfl) (off := 7) rfl)) ?_
 refine rl_v rfl rfl rfl (ov_len rfl Try.underlying31 rfl) <| rl_v rfl rfl rfl (ov_leq rfl rfl rfl) <| rl_nil ?_
 first | refine run_cond_dec rfl (fun h1 => ?_) (fun h1 => ?_) | refine run_cond rfl (fun h1 => ?_) (fun h1 => ?_)
 ·have hidx : 0 ≤ i - 1 ∧ i - 1 < (X.mem : Int) := by omega
  have hcast : (((i - 1).toNat : Nat) : Int) = i - 1 := Int.toNat_of_nonneg hidx.1
  have hgi : (X.mkI m p (i - 1)).ac (i - 1) = X.ac (i - 1) := if_neg (by omega)
  have hqr := hGi.qr (i - 1).toNat (by show (i - 1).toNat < X.mem; omega)
  rw [hcast, hgi] at hqr
  obtain ⟨q0, eq⟩ := hqr.addr
  have eq' := eq (by show 0 < X.mn; omega)
  have hp1 := hps (i - 1) hidx.1 hidx.2
  have hc1 := hcs (i - 1) hidx.1 hidx.2
  have hmul := mulAbs (a := (X.ac (i - 1)).pos m) (b := p - X.pr m) (A := 1000000) (B := 3000000) (by omega) (by omega)
  have hmu : ((X.ac (i - 1)).pos m * (p - X.pr m)).natAbs ≤ 3000000000000 := hmul
  have hrdA : ∀ {w' : World}, Own B w0 w' (GL X pb ab cb qb (some (lch b3 34 (ghL X K)) :: some (lch b6 34 ghz) :: H)) → w'.cell? ⟨a0, 0 + (i - 1).toNat * 4 + 2, none⟩ = some (.slice (K.qa (i - 1)) X.mn (K.qc (i - 1))) := fun h => by
   obtain ⟨a1, e1, ra⟩ := hGi.ar.openS h 1 rfl
   have e2 := e1 (by show 0 < X.mem; omega)
   rw [ea] at e2
   cases e2
   exact ra (i - 1) hidx.1 hidx.2 2 (by decide)
  have hrdQ : ∀ {w' : World}, Own B w0 w' (GL X pb ab cb qb (some (lch b3 34 (ghL X K)) :: some (lch b6 34 ghz) :: H)) → w'.cell? ⟨q0, 0 + m.toNat, none⟩ = some (iv ((X.ac (i - 1)).pos m)) := fun h => by
   obtain ⟨a1, e1, ra⟩ := hqr.openS h ((i - 1).toNat + 3) (get_mid (by omega))
   have e2 := e1 (by show 0 < X.mn; omega)
   rw [eq'] at e2
   cases e2
   exact ra m hm.1 (by show m < (X.mn : Int); omega)
  have hrdP : ∀ {B : Nat} {w0 w' : World} {T : List (Option Blk)}, Own B w0 w' (pb :: T) → w'.cell? ⟨p0, 0 + m.toNat, none⟩ = some (iv (X.pr m)) := fun h => by
   obtain ⟨a1, e1, ra⟩ := hG.pr.openS h 0 rfl
   have e2 := e1 (by omega)
   rw [ep'] at e2
   cases e2
   exact ra m hm.1 (by omega)
  refine run_skip <| run_seq <| run_block <| run_late (fun w' => Own B w0 w' ([pb, some (lch b3 34 (ghL X K))])) 21 mixed ?_
  have hO10 := hO4.drew
  generalize World.drew w7 = w9 at hO10 ⊢
  have hS11 : Own B w0 w9 ([pb, some (lch b3 34 (ghL X K))]) := by exact hO10.sub (.cons_cons _ (.cons _ (.cons _ (List.Sublist.trans (.cons_cons _ (List.nil_sublist _)) (List.sublist_append_right _ _)))))
  refine rhl_v 0 rfl (by kernel_rfl) rfl rfl rfl hS11 (fun _ hS => ov_loadW rfl Try.underlying34 rfl (by kernel_rfl) rfl hS 1 rfl) ?_
  refine rhl_v 1 rfl (by kernel_rfl) rfl rfl rfl hS11 (fun _ hS => ov_move rfl rfl) ?_
  refine rhl_v 2 rfl (by kernel_rfl) rfl rfl rfl hS11 (fun _ hS => ov_fieldS rfl Try.underlying34 rfl (fo := 7) rfl (by kernel_rfl) rfl) ?_
  refine rhl_v 3 rfl (by kernel_rfl) rfl rfl rfl hS11 (fun _ hS => ov_load rfl Try.underlying31 rfl rfl (by exact hS.cellL 1 rfl (off := 7) rfl)) ?_
  refine rhl_v 4 rfl (by kernel_rfl) rfl rfl rfl hS11 (fun _ hS => ov_move rfl rfl) ?_
  refine rhl_v 5 rfl (by kernel_rfl) rfl rfl rfl hS11 (fun _ hS => ov_sub rfl rfl rfl (by omega)) ?_
  refine rhl_v 6 rfl (by kernel_rfl) rfl rfl rfl hS11 (fun _ hS => ov_index rfl Try.underlying31 (by kernel_rfl) (s := 4) rfl rfl hidx (by exact (id ea))) ?_
  refine rhl_v 7 rfl (by kernel_rfl) rfl rfl rfl hS11 (fun _ hS => ov_fieldS rfl Try.underlying49 rfl (fo := 2) rfl (by kernel_rfl) rfl) ?_
  refine rhl_v 9 rfl (by kernel_rfl) rfl rfl rfl hS11 (fun _ hS => ov_move rfl rfl) ?_
  refine rhl_v 12 rfl (by kernel_rfl) rfl rfl rfl hS11 (fun _ hS => ov_move rfl rfl) ?_
  refine rhl_v 13 rfl (by kernel_rfl) rfl rfl rfl hS11 (fun _ hS => ov_fieldS rfl Try.underlying34 rfl (fo := 6) rfl (by kernel_rfl) rfl) ?_
  refine rhl_v 14 rfl (by kernel_rfl) rfl rfl rfl hS11 (fun _ hS => ov_load rfl Try.underlying22 rfl rfl (by exact hS.cellL 1 rfl (off := 6) rfl)) ?_
  refine rhl_v 15 rfl (by kernel_rfl) rfl rfl rfl hS11 (fun _ hS => ov_move rfl rfl) ?_
  refine rhl_v 16 rfl (by kernel_rfl) rfl rfl rfl hS11 (fun _ hS => ov_index1 rfl Try.underlying22 (by kernel_rfl) rfl rfl ⟨by omega, by omega⟩ (by exact (id ep'))) ?_
  refine rhl_v 17 rfl (by kernel_rfl) rfl rfl rfl hS11 (fun _ hS => ov_load rfl Try.underlying2 rfl rfl (by exact hrdP hS)) ?_
  refine rhl_v 18 rfl (by kernel_rfl) rfl rfl rfl hS11 (fun _ hS => ov_sub rfl rfl rfl (by omega)) ?_
  refine rhl_any1 8 (by kernel_rfl) ?_
  refine rcl_op rfl rfl (ow_v rfl rfl (ov_load rfl Try.underlying22 rfl rfl (by exact hrdA hO10))) ?_
  rintro _ _ ⟨rfl, hw12⟩
  replace hw12 := hw12.symm; subst hw12
  refine ⟨hS11, ?_⟩
  refine rhl_v 10 rfl (by kernel_rfl) rfl rfl rfl hS11 (fun _ hS => ov_index1 rfl Try.underlying22 (by kernel_rfl) rfl rfl ⟨by omega, by omega⟩ (by exact (id eq'))) ?_
  refine rhl_any1 11 (by kernel_rfl) ?_
  refine rcl_op rfl rfl (ow_v rfl rfl (ov_load rfl Try.underlying2 rfl rfl (by exact hrdQ hO10))) ?_
  rintro _ _ ⟨rfl, hw13⟩
  replace hw13 := hw13.symm; subst hw13
  refine ⟨hS11, ?_⟩
  refine rhl_v 19 rfl (by kernel_rfl) rfl rfl rfl hS11 (fun _ hS => ov_mul rfl rfl rfl (by omega)) ?_
  refine rhl_any1 20 (by kernel_rfl) ?_
  refine rcl_op rfl rfl (ow_call2 callable_117 rfl rfl rfl rfl rfl (gCash_any (X.mkI m p (i - 1)) K i ((X.ac (i - 1)).pos m * (p - X.pr m)) R pb ab cb qb B _ w0 w9 hO10 hGi (by show 1 ≤ i ∧ i ≤ (X.mem : Int); omega) (by show X.mem ≤ 64; omega) (by show _ ≤ ((X.mkI m p (i - 1)).ac (i - 1)).cash + _ ∧ ((X.mkI m p (i - 1)).ac (i - 1)).cash + _ ≤ _; rw [hgi]; omega)) (by intro e w' hp; obtain ⟨rfl, ab2, hG2, hOc⟩ := hp; exact ⟨_, rfl⟩)) ?_
  rintro _ w16 ⟨_, v14, he17, rfl, hp15⟩
  obtain ⟨rfl, ab2, hG2, hOc⟩ := hp15
  injection he17 with he17; subst he17
  replace hOc : Own B w0 w16 (GL X pb ab2 cb qb (some (lch b3 34 (ghL X K)) :: some (lch b6 34 ghz) :: H)) := hOc
  have hS18 : Own B w0 w16 ([pb, some (lch b3 34 (ghL X K))]) := by exact hOc.sub (.cons_cons _ (.cons _ (.cons _ (List.Sublist.trans (.cons_cons _ (List.nil_sublist _)) (List.sublist_append_right _ _)))))
  refine ⟨hS18, ?_⟩
  refine rhl_any1 21 (by kernel_rfl) ?_
  refine rcl_last rfl rfl (ow_storeW rfl rfl (by kernel_rfl) hOc (X.mem + 0 + 3) ((get_aft3 0 rfl)) rfl (by rfl) rfl (by rfl)) ?_
  rintro _ w19 ⟨rfl, hO20, hs21⟩
  have hO5 := Own.setAft (m := X.mem) (k := 0) (qb := qb) (a := pb) (b := ab2) (c := cb) (T := some (lch b3 34 (ghL X K)) :: some (lch b6 34 ghz) :: H) hO20
  have hG3 : GRo R (X.mkI m p (i + 1 - 1)) K pb ab2 cb qb := by
   rw [show i + 1 - 1 = i by omega]
   refine GRo.acs (X := X) (f := upd (X.mkI m p (i - 1)).ac (i - 1) { (X.mkI m p (i - 1)).acct i with cash := ((X.mkI m p (i - 1)).acct i).cash + (X.ac (i - 1)).pos m * (p - X.pr m) }) hG2 fun j j0 j1 => ?_
   by_cases e : j = i - 1
   ·rw [e, upd_same, if_pos (by omega), show (X.mkI m p (i - 1)).acct i = X.ac (i - 1) from hgi]
    rfl
   ·rw [upd_ne _ _ e]
    show (if j < i - 1 then _ else _) = _
    by_cases c : j < i - 1
    ·rw [if_pos c, if_pos (by omega)]
    ·rw [if_neg c, if_neg (by omega)]
  refine rhl_done (by kernel_rfl) ?_
  refine run_inBlock <| run_region <| rl_v rfl rfl rfl (ov_move rfl rfl) <| rl_v rfl rfl rfl (ov_add rfl rfl rfl (by omega)) ?_
  refine rl_v rfl rfl rfl (ov_assign rfl rfl) <| rl_nil ?_
  refine Run.use (ih8 (i + 1) (ab2) _ ?_ ?_) (And.intro (by exact slot_int rfl (by first | omega)) (And.intro rfl (And.intro rfl (And.intro rfl (And.intro rfl trivial)))))
  ·first | omega | (dsimp only; omega)
  ·exact ⟨by omega, hG3, hO5⟩
 ·obtain rfl : i = X.mem + 1 := by omega
  have hG4 : GRo R { X with ac := fun j => X.mkA m p (X.ac j) } K pb ab cb qb := GRo.acs (X := X) (f := (X.mkI m p (X.mem + 1 - 1)).ac) hGi fun j _ j1 => if_pos (by omega)
  refine run_exit rfl <| run_seq <| run_region <| rl_v rfl rfl rfl (ov_fieldS rfl Try.underlying34 rfl (fo := 6) rfl (by kernel_rfl) rfl) ?_
  refine rl_v rfl rfl rfl (ov_load rfl Try.underlying22 rfl rfl (by exact hO4.cellL (X.mem + 0 + 3) (get_aft3 0 rfl) (off := 6) rfl)) ?_
  refine rl_v rfl rfl rfl (ov_move rfl rfl) <| rl_v rfl rfl rfl (ov_move rfl rfl) <| rl_v rfl rfl rfl (ov_index1 rfl Try.underlying22 (by kernel_rfl) rfl rfl ⟨by omega, by omega⟩ (by exact (id ep'))) ?_
  refine rl_ow rfl (ow_storeI1 rfl rfl (by kernel_rfl) hO4 0 hG.pr rfl ep rfl ⟨hm.1, by omega⟩ rfl rfl) ?_
  rintro _ w22 ⟨c9, rfl, hO23, hR2, hs24⟩
  have hO6 : Own B w0 w22 (GL X c9 ab cb qb (some (lch b3 34 (ghL X K)) :: some (lch b6 34 ghz) :: H)) := hO23
  have hO7 := hO6.perm perm_aft
  have hG5 : GRo R (X.mkd m p) K c9 ab cb qb := by
   refine ⟨hR2.congr fun j _ _ => ?_, hG4.ar, hG4.cr, hG4.qr, hG4.ms, hG4.vv⟩
   show _ = iv (upd X.pr m p j)
   unfold upd
   split <;> rfl
  refine rl_nil <| run_seq <| run_region <| rl_v rfl rfl rfl (ov_loadW rfl Try.underlying34 rfl (by kernel_rfl) rfl hO7 (X.mem+0+4) ((get_aft4 0 rfl))) ?_
  refine rl_ow rfl (ow_storeW rfl rfl (by kernel_rfl) hO7 0 rfl rfl (by rfl) rfl (by rfl)) ?_
  rintro _ w25 ⟨rfl, hO26, hs27⟩
  refine rl_nil <| run_ret Try.func123 (resW Try.results123 rfl Try.underlying34 rfl (by kernel_rfl) hO26 0 rfl) ?_
  exact ⟨rfl, c9, ab, hG5, hO26.tail.sub (.cons_cons _ (.cons_cons _ (.cons_cons _ (List.Sublist.append_left (.cons _ (.refl H)) _))))⟩
theorem gMark_any (X : HM) (K : GK) (m p : Int) (R : List (Option Blk)) (j B : Nat) (H : List (Option Blk)) (w0 w : World) (hO : Own B w0 w H) (hK : GIn R X K) (hs : R.Sublist H) (hX : HB j X) (hj : j < 100) :
  Calls Try.prog 79 #[.agg (ghL X K).toArray, iv m, iv p] w fun e w' => ∃ v, e = .returned (.tuple #[v, iv (X.mrk m p)]) ∧ ((X.mrk m p = 0 ∧ GNew B w0 w' v (X.mark m p) R H) ∨ (X.mrk m p ≠ 0 ∧ GSame B w0 w' v X K H)) := by
 have hg := hX.gg (by omega)
 have hG := hg.g
 have hmem := hX.mem
 have hmo := hX.mo
 refine calls_of_run (F := [(0, _), (1, _), (2, _)]) Try.func79 rfl Try.ntmps79 rfl rfl <| run_seq <| run_region <| rl_ow rfl (ow_box _ rfl rfl rfl rfl rfl hO) ?_
 rintro _ w1 ⟨b3, rfl, hO2, hs3⟩
 refine rl_ow rfl (ow_alloc _ rfl rfl rfl zero_34 rfl hO2) ?_
 rintro _ w4 ⟨b6, rfl, hO5, hs6⟩
 refine rl_v rfl rfl rfl (ov_assign rfl rfl) <| rl_nil <| run_seq <| run_seq <| run_region <| rl_v rfl rfl rfl (ov_loadW rfl Try.underlying34 rfl (by kernel_rfl) rfl hO5 1 rfl) ?_
 refine rl_v rfl rfl rfl (ov_move rfl rfl) ?_
 refine rl_call callable_37 rfl rfl rfl rfl rfl rfl (gMonth_any X K m B _ w0 w4 hO5 hmo.1) (fun e7 w8 hp9 => ?_)
 obtain ⟨rfl, hO1⟩ := hp9
 refine ⟨_, rfl, ?_⟩
 refine rl_v rfl rfl rfl (ov_not rfl rfl) <| rl_nil ?_
 first | refine run_cond_dec rfl (fun c1 => ?_) (fun c1 => ?_) | refine run_cond rfl (fun c1 => ?_) (fun c1 => ?_)
 ·have hn : ¬ X.hasM m := ndt c1
  have e4 : X.mrk m p = 4 := if_pos (Classical.byContradiction fun h => hn ⟨Classical.byContradiction fun h1 => h (.inl (by omega)), Classical.byContradiction fun h1 => h (.inr (by omega))⟩)
  refine run_seq <| run_region <| rl_v rfl rfl rfl (ov_loadW rfl Try.underlying34 rfl (by kernel_rfl) rfl hO1 1 rfl) ?_
  refine rl_ow rfl (ow_storeW rfl rfl (by kernel_rfl) hO1 0 rfl rfl (by rfl) rfl (by rfl)) ?_
  rintro _ w10 ⟨rfl, hO11, hs12⟩
  refine rl_v rfl rfl rfl (ov_assign rfl rfl) <| rl_nil <| run_ret Try.func79 (resW2 Try.results79 rfl rfl Try.underlying34 rfl (by kernel_rfl) hO11 0 rfl) ?_
  exact ⟨_, by rw [e4], .inr ⟨by rw [e4]; decide, rfl, hO11.tail.tail⟩⟩
 ·have hm : 0 ≤ m ∧ m < X.mo := ndf c1
  have em : X.mrk m p = if 1 ≤ p ∧ p ≤ 1000000 then 0 else 1 := if_neg (by omega)
  refine run_skip <| run_seq <| run_seq <| run_region <| rl_v rfl rfl rfl (ov_move rfl rfl) <| rl_v rfl rfl rfl (ov_lss rfl rfl rfl) <| rl_v rfl rfl rfl (ov_move rfl rfl) ?_
  first | refine rl_split_dec 15 rfl (fun p1 => ?_) (fun p1 => ?_) | refine rl_split 15 rfl (fun p1 => ?_) (fun p1 => ?_)
  ·refine rl_gskip rfl rfl rfl rfl rfl rfl <| rl_gskip rfl rfl rfl rfl rfl rfl <| rl_v rfl rfl rfl (ov_pick_t rfl rfl rfl) <| rl_nil <| run_cond_t rfl ?_
   have e1 : X.mrk m p = 1 := em.trans (if_neg (by omega))
   refine run_seq <| run_region <| rl_v rfl rfl rfl (ov_loadW rfl Try.underlying34 rfl (by kernel_rfl) rfl hO1 1 rfl) ?_
   refine rl_ow rfl (ow_storeW rfl rfl (by kernel_rfl) hO1 0 rfl rfl (by rfl) rfl (by rfl)) ?_
   rintro _ w14 ⟨rfl, hO15, hs16⟩
   refine rl_v rfl rfl rfl (ov_assign rfl rfl) <| rl_nil <| run_ret Try.func79 (resW2 Try.results79 rfl rfl Try.underlying34 rfl (by kernel_rfl) hO15 0 rfl) ?_
   exact ⟨_, by rw [e1], .inr ⟨by rw [e1]; decide, rfl, hO15.tail.tail⟩⟩
  ·refine rl_gv rfl rfl rfl rfl rfl (ov_move rfl rfl) <| rl_gv rfl rfl rfl rfl rfl (ov_gtr rfl rfl rfl) <| rl_v rfl rfl rfl (ov_pick_f rfl rfl rfl) <| rl_nil ?_
   first | refine run_cond_dec rfl (fun p2 => ?_) (fun p2 => ?_) | refine run_cond rfl (fun p2 => ?_) (fun p2 => ?_)
   ·have e1 : X.mrk m p = 1 := em.trans (if_neg (by omega))
    refine run_seq <| run_region <| rl_v rfl rfl rfl (ov_loadW rfl Try.underlying34 rfl (by kernel_rfl) rfl hO1 1 rfl) ?_
    refine rl_ow rfl (ow_storeW rfl rfl (by kernel_rfl) hO1 0 rfl rfl (by rfl) rfl (by rfl)) ?_
    rintro _ w17 ⟨rfl, hO18, hs19⟩
    refine rl_v rfl rfl rfl (ov_assign rfl rfl) <| rl_nil <| run_ret Try.func79 (resW2 Try.results79 rfl rfl Try.underlying34 rfl (by kernel_rfl) hO18 0 rfl) ?_
    exact ⟨_, by rw [e1], .inr ⟨by rw [e1]; decide, rfl, hO18.tail.tail⟩⟩
   ·have e0 : X.mrk m p = 0 := em.trans (if_pos (by omega))
    have ex : X.mark m p = X.mkd m p := if_pos e0
    refine run_skip <| run_seq <| run_region <| rl_v rfl rfl rfl (ov_loadW rfl Try.underlying34 rfl (by kernel_rfl) rfl hO1 1 rfl) ?_
    refine rl_call callable_118 rfl rfl rfl rfl rfl rfl (gFork_any X K R B _ w0 w8 hO1 hK (.cons _ (.cons _ hs)) hg) (fun e20 w21 hp22 => ?_)
    obtain ⟨L, pb, ab, cb, qb, rfl, hL, hO2⟩ := hp22
    refine ⟨_, rfl, ?_⟩
    refine rl_v rfl rfl rfl (ov_move rfl rfl) <| rl_v rfl rfl rfl (ov_move rfl rfl) ?_
    refine rl_call callable_123 rfl rfl rfl rfl rfl rfl (gMark0_any X L m p R pb ab cb qb B _ w0 w21 hO2 hL (by omega) hmo hm (fun k k0 k1 => hG.pos k k0 k1 m hm.1 (by omega)) (fun k k0 k1 => by have := hG.cash k k0 k1; omega) (by omega) (by have := hG.pr m hm.1 (by omega); omega)) (fun e23 w24 hp25 => ?_)
    obtain ⟨rfl, pb2, ab2, hL2, hO3⟩ := hp25
    refine ⟨_, rfl, ?_⟩
    have hO5 : Own B w0 w24 ((pb2 :: ab2 :: cb :: (List.range X.mem).map qb) ++ (_ :: _ :: H)) := hO3
    have hO6 := hO5.perm List.perm_middle
    refine rl_ow rfl (ow_storeW rfl rfl (by kernel_rfl) hO6 0 rfl rfl (by rfl) rfl (by rfl)) ?_
    rintro _ w26 ⟨rfl, hO27, hs28⟩
    have hO8 := hO27.tail.sub (List.Sublist.append_left (.cons _ (.refl H)) (pb2 :: ab2 :: cb :: (List.range X.mem).map qb))
    refine rl_v rfl rfl rfl (ov_assign rfl rfl) <| rl_nil <| run_ret Try.func79 (resW2 Try.results79 rfl rfl Try.underlying34 rfl (by kernel_rfl) hO27 0 rfl) ?_
    exact ⟨.agg (ghL X L).toArray, by rw [e0], .inl ⟨e0, L, pb2, ab2, cb, qb, by rw [ex]; rfl, by rw [ex]; exact hL2, by rw [ex]; exact hO8⟩⟩
theorem gCalls_any (X : HM) (K : GK) (R : List (Option Blk)) (B : Nat) (H : List (Option Blk)) (w0 w : World) (hO : Own B w0 w H) (hK : GIn R X K) (hs : R.Sublist H) (hX : GG X) :
  Calls Try.prog 80 #[.agg (ghL X K).toArray] w fun e w' => ∃ v c, e = .returned v ∧ IRow v 3 (X.cls X.mem).length (fun i => iv (glH (X.cls X.mem) i)) c ∧ (X.cls X.mem).length ≤ X.mem ∧ Own B w0 w' (c :: H) := by
 have hmem := hX.g.mem
 obtain ⟨ab, ao, ea, ra⟩ := hK.av.at (by decide) (hO.sub hs) (by omega)
 refine calls_of_run (F := [(0, _)]) Try.func80 rfl Try.ntmps80 rfl rfl <| run_seq <| run_region <| rl_ow rfl (ow_box _ rfl rfl rfl rfl rfl hO) ?_
 rintro _ w1 ⟨b1, rfl, hO2, hs3⟩
 refine rl_v rfl rfl rfl (ov_assign rfl rfl) <| rl_nil <| run_seq <| run_region <| rl_v rfl rfl rfl (ov_assign rfl rfl) <| rl_nil <| run_seq <| run_seq <| run_region <| rl_v rfl rfl rfl (ov_assign rfl rfl) <| rl_nil <| run_block <| Run.keep [1, 3, 4] (F' := [(1, _), (3, _), (4, _)]) rfl <| run_loop4 (fun (i : Int) (n : Nat) (v : Value) (c : Option Blk) => [(3, v), (4, .int .i64 i)]) [1] (fun (i : Int) (n : Nat) (v : Value) (c : Option Blk) (w4 : World) => i = (n : Int) + 1 ∧ n ≤ X.mem ∧ IRow v 3 (X.cls n).length (fun i => iv (glH (X.cls n) i)) c ∧ (X.cls n).length ≤ n ∧ Own B w0 w4 (c :: some (lch b1 34 (ghL X K)) :: H)) (fun (i : Int) (n : Nat) (v : Value) (c : Option Blk) => X.mem - n) (1) (0) (.slice none 0 0) (none) ?_ (And.intro rfl (And.intro (by exact slot_int rfl (by first | omega)) (And.intro rfl trivial))) ?_
 ·exact ⟨rfl, by omega, IRow.nil _ _, Nat.le_refl _, hO2.nil_cons⟩
 intro i n v c w4 hIw4 ih5
 obtain ⟨hi, hn, hrw, hlen, hO1⟩ := hIw4
 show Run _ _ _ _ [(3, _), (4, _), (1, _)] _ _
 refine run_seq <| run_seq <| run_region <| rl_v rfl rfl rfl (ov_move rfl rfl) <| rl_v rfl rfl rfl (ov_fieldS rfl Try.underlying34 rfl (fo := 7) rfl (by kernel_rfl) rfl) ?_
 refine rl_v rfl rfl rfl (ov_load rfl Try.underlying31 rfl rfl (by exact hO1.cellL 1 rfl (off := 7) rfl)) ?_
 refine rl_v rfl rfl rfl (ov_len rfl Try.underlying31 rfl) <| rl_v rfl rfl rfl (ov_leq rfl rfl rfl) <| rl_nil ?_
 first | refine run_cond_dec rfl (fun h1 => ?_) (fun h1 => ?_) | refine run_cond rfl (fun h1 => ?_) (fun h1 => ?_)
 ·have hac : X.acct i = X.ac n := by show X.ac (i - 1) = _; rw [hi]; congr 1; omega
  refine run_skip <| run_seq <| run_block <| run_seq <| run_region <| rl_v rfl rfl rfl (ov_fieldS rfl Try.underlying34 rfl (fo := 7) rfl (by kernel_rfl) rfl) ?_
  refine rl_v rfl rfl rfl (ov_load rfl Try.underlying31 rfl rfl (by exact hO1.cellL 1 rfl (off := 7) rfl)) ?_
  refine rl_v rfl rfl rfl (ov_move rfl rfl) <| rl_v rfl rfl rfl (ov_sub rfl rfl rfl (by omega)) ?_
  refine rl_v rfl rfl rfl (ov_index rfl Try.underlying31 (by kernel_rfl) (s := 4) rfl rfl ⟨by omega, by omega⟩ (by exact (id ea))) ?_
  refine rl_v rfl rfl rfl (ov_fieldS rfl Try.underlying49 rfl (fo := 3) rfl (by kernel_rfl) rfl) ?_
  refine rl_v rfl rfl rfl (ov_load rfl Try.underlying4 rfl rfl (by exact (show _ = some (.bool (X.acct i).out) from ra (hO1.sub (.cons _ (.cons _ hs))) (i - 1) (by omega) (by omega) 3 (by decide)))) ?_
  refine rl_v rfl rfl rfl (ov_not rfl rfl) <| rl_v rfl rfl rfl (ov_move rfl rfl) ?_
  first | refine rl_split_dec 20 rfl (fun o1 => ?_) (fun o1 => ?_) | refine rl_split 20 rfl (fun o1 => ?_) (fun o1 => ?_)
  ·refine rl_gv rfl rfl rfl rfl rfl (ov_loadW rfl Try.underlying34 rfl (by kernel_rfl) rfl hO1 1 rfl) ?_
   refine rl_gv rfl rfl rfl rfl rfl (ov_move rfl rfl) ?_
   refine rl_gcall callable_119 rfl rfl rfl rfl rfl rfl rfl rfl (gCovered_any X K i R B _ w0 w4 hO1 hK (.cons _ (.cons _ hs)) hX (by omega)) (fun e7 w8 hp9 => ?_)
   obtain ⟨rfl, hO2⟩ := hp9
   refine ⟨_, rfl, ?_⟩
   refine rl_gv rfl rfl rfl rfl rfl (ov_not rfl rfl) <| rl_v rfl rfl rfl (ov_pick_t rfl rfl rfl) <| rl_nil ?_
   first | refine run_cond_dec rfl (fun c1 => ?_) (fun c1 => ?_) | refine run_cond rfl (fun c1 => ?_) (fun c1 => ?_)
   ·have hu : X.unc (X.ac n) := by rw [← hac]; exact ⟨by simpa using o1, ndt c1⟩
    have ec : X.cls (n + 1) = X.cls n ++ [(n : Int) + 1] := if_pos hu
    refine run_region <| rl_v rfl rfl rfl (ov_move rfl rfl) <| rl_v rfl rfl rfl (ov_move rfl rfl) ?_
    refine rl_appI rfl rfl rfl rfl rfl rfl rfl rfl Try.underlying51 info_3 rfl hO2 0 hrw rfl rfl rfl ⟨by omega, by omega⟩ (fun v2 c2 w10 hO11 hr2 hs12 => ?_)
    refine rl_v rfl rfl rfl (ov_assign rfl rfl) <| rl_nil <| run_inBlock <| run_region <| rl_v rfl rfl rfl (ov_move rfl rfl) <| rl_v rfl rfl rfl (ov_add rfl rfl rfl (by omega)) ?_
    refine rl_v rfl rfl rfl (ov_assign rfl rfl) <| rl_nil ?_
    refine Run.use (ih5 (i + 1) (n + 1) (v2) (c2) _ ?_ ?_) (And.intro rfl (And.intro (by exact slot_int rfl (by first | omega)) (And.intro rfl trivial)))
    ·first | omega | (dsimp only; omega)
    ·exact ⟨by omega, by omega, by rw [ec]; exact glH_snoc (hr2.congr fun j _ _ => by rw [hi]), by rw [ec, List.length_append]; exact Nat.succ_le_succ hlen, hO11⟩
   ·have hu : ¬ X.unc (X.ac n) := by rw [← hac]; exact fun h => h.2 (ndf c1)
    have ec : X.cls (n + 1) = X.cls n := if_neg hu
    refine run_skip <| run_inBlock <| run_region <| rl_v rfl rfl rfl (ov_move rfl rfl) <| rl_v rfl rfl rfl (ov_add rfl rfl rfl (by omega)) ?_
    refine rl_v rfl rfl rfl (ov_assign rfl rfl) <| rl_nil ?_
    refine Run.use (ih5 (i + 1) (n + 1) (v) (c) _ ?_ ?_) (And.intro rfl (And.intro (by exact slot_int rfl (by first | omega)) (And.intro rfl trivial)))
    ·first | omega | (dsimp only; omega)
    ·exact ⟨by omega, by omega, by rw [ec]; exact hrw, by rw [ec]; omega, hO2⟩
  ·have hu : ¬ X.unc (X.ac n) := by rw [← hac]; exact fun h => by rw [h.1] at o1; cases o1
   have ec : X.cls (n + 1) = X.cls n := if_neg hu
   refine rl_gskip rfl rfl rfl rfl rfl rfl <| rl_gskip rfl rfl rfl rfl rfl rfl <| rl_gskip rfl rfl rfl rfl rfl rfl <| rl_gskip rfl rfl rfl rfl rfl rfl <| rl_v rfl rfl rfl (ov_pick_f rfl rfl rfl) <| rl_nil <| run_cond_f rfl <| run_skip <| run_inBlock <| run_region <| rl_v rfl rfl rfl (ov_move rfl rfl) <| rl_v rfl rfl rfl (ov_add rfl rfl rfl (by omega)) ?_
   refine rl_v rfl rfl rfl (ov_assign rfl rfl) <| rl_nil ?_
   refine Run.use (ih5 (i + 1) (n + 1) (v) (c) _ ?_ ?_) (And.intro rfl (And.intro (by exact slot_int rfl (by first | omega)) (And.intro rfl trivial)))
   ·first | omega | (dsimp only; omega)
   ·exact ⟨by omega, by omega, by rw [ec]; exact hrw, by rw [ec]; omega, hO1⟩
 ·obtain rfl : X.mem = n := by omega
  refine run_exit rfl <| run_seq <| run_region <| rl_v rfl rfl rfl (ov_move rfl rfl) <| rl_v rfl rfl rfl (ov_assign rfl rfl) <| rl_nil <| run_ret Try.func80 (res1 Try.results80 rfl) ?_
  exact ⟨v, c, rfl, hrw, hlen, hO1.sub (.cons_cons _ (.cons _ (.refl _)))⟩
end Go.Proofs.Ytfbbagnpdfafjaa
