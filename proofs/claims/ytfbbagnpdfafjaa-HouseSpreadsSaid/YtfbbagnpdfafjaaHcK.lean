import Derived.Test.YtfbbagnpdfafjaaHcJ
set_option maxRecDepth 100000
namespace Go.Proofs.Ytfbbagnpdfafjaa
open Go.RowKit Go.Proofs
def lsz : List Value := [.int .i64 0, .int .i64 0, .int .i64 0, .int .i64 0, .int .i64 0]
theorem lt_skip {f : Int → Int} {k : Int} (h : f k = 0) (i : Int) : (if i < k then f i else 0) = if i < k + 1 then f i else 0 := by
 by_cases e : i = k
 ·rw [if_neg (by omega), if_pos (by omega), e, h]
 ·by_cases c : i < k
  ·rw [if_pos c, if_pos (by omega)]
  ·rw [if_neg c, if_neg (by omega)]
theorem Own.intoT {B : Nat} {w0 w : World} {x a b c : Option Blk} {M T : List (Option Blk)} (h : Own B w0 w (x :: a :: b :: c :: (M ++ T))) : Own B w0 w (a :: b :: c :: (M ++ (x :: T))) := h.perm (List.perm_middle (a := x) (l₁ := a :: b :: c :: M) (l₂ := T)).symm
theorem Own.setA3 {B : Nat} {w0 w : World} {a b c x : Option Blk} {qb : Nat → Option Blk} {m : Nat} {T : List (Option Blk)} (k : Nat) (h : Own B w0 w ((a :: b :: c :: ((List.range m).map qb ++ T)).set (m + k + 3) x)) : Own B w0 w (a :: b :: c :: ((List.range m).map qb ++ T.set k x)) := h.setAft
theorem Own.outs {B : Nat} {w0 w : World} {a b c : Option Blk} {M T : List (Option Blk)} (xs : List (Option Blk)) (h : Own B w0 w (a :: b :: c :: (M ++ (xs ++ T)))) : Own B w0 w (xs ++ (a :: b :: c :: (M ++ T))) := h.perm (List.perm_append_comm_assoc (a :: b :: c :: M) xs T)
theorem Own.ins {B : Nat} {w0 w : World} {a b c : Option Blk} {M T : List (Option Blk)} (xs : List (Option Blk)) (h : Own B w0 w (xs ++ (a :: b :: c :: (M ++ T)))) : Own B w0 w (a :: b :: c :: (M ++ (xs ++ T))) := h.perm (List.perm_append_comm_assoc (a :: b :: c :: M) xs T).symm
def HM.WF (X : HM) (i j : Int) : Int := if X.othP i j = true then (X.ac j).fund else 0
def HM.WG (X : HM) (i j : Int) : Int := if X.othP i j = true then max 0 (X.ac j).cash else 0
theorem oth_ne {X : HM} {i j : Int} (h : X.othP i j = true) : j ≠ i - 1 := fun e => oth_own X i (by rw [← e]; exact h)
theorem wf_eq {X : HM} {i j : Int} (hf : 0 ≤ (X.ac j).fund) : (X.d3 i).spW HA.fund i j = X.WF i j := by
 have e : (X.d3 i).othP i j = X.othP i j := by unfold HM.othP; rw [d3_ac, (d2_rest X i j).1]
 unfold HM.spW HM.WF
 rw [e]
 by_cases c : X.othP i j = true
 ·rw [if_pos c, if_pos c, d3_ac, d2_ac, if_neg (oth_ne c)]
  show max 0 (X.ac j).fund = _
  omega
 ·rw [if_neg c, if_neg c]
theorem wg_eq {X : HM} {i j : Int} : (X.d4 i).spW HA.cash i j = X.WG i j := by
 have e : (X.d4 i).othP i j = X.othP i j := by unfold HM.othP; rw [d4_ac, (spA_fund _ _ _ _).2.1, d3_ac, (d2_rest X i j).1]
 unfold HM.spW HM.WG
 rw [e]
 by_cases c : X.othP i j = true
 ·rw [if_pos c, if_pos c, d4_ac, (spA_fund _ _ _ _).1, d3_ac, d2_ac, if_neg (oth_ne c)]
  rfl
 ·rw [if_neg c, if_neg c]
theorem t2_eq {X : HM} {i : Int} (hf : ∀ j : Int, 0 ≤ j → j < X.mem → 0 ≤ (X.ac j).fund) : min (X.l2 i) (sm (X.WF i) X.mem) = X.t2 i := by
 unfold HM.t2 HM.spT
 rw [(d_mem X i).2.2.1, sm_congr (f := (X.d3 i).spW HA.fund i) (g := X.WF i) fun j j0 j1 => wf_eq (hf j j0 j1)]
theorem t3_eq {X : HM} {i : Int} : min (X.l3 i) (sm (X.WG i) X.mem) = X.t3 i := by
 unfold HM.t3 HM.spT
 rw [(d_mem X i).2.2.2.1, sm_congr (f := (X.d4 i).spW HA.cash i) (g := X.WG i) fun j _ _ => wg_eq]
def HM.mA (X : HM) (A : Int → HA) (F C : Int → Int) (j : Int) : HA := { A j with fund := F j, cash := C j }
theorem HA.ext4 {a b : HA} (h1 : a.cash = b.cash) (h2 : a.fund = b.fund) (h3 : a.pos = b.pos) (h4 : a.out = b.out) : a = b := by
 cases a; cases b; cases h1; cases h2; cases h3; cases h4; rfl
theorem mA_fund {X : HM} {A : Int → HA} {F C : Int → Int} {k v : Int} (j : Int) : upd (X.mA A F C) k { X.mA A F C k with fund := v } j = X.mA A (upd F k v) C j := by
 unfold HM.mA upd
 by_cases e : j = k
 ·rw [if_pos e, e]; simp
 ·rw [if_neg e, if_neg e]
theorem mA_cash {X : HM} {A : Int → HA} {F C : Int → Int} {k v : Int} (j : Int) : upd (X.mA A F C) k { X.mA A F C k with cash := v } j = X.mA A F (upd C k v) j := by
 unfold HM.mA upd
 by_cases e : j = k
 ·rw [if_pos e, e]; simp
 ·rw [if_neg e, if_neg e]
theorem mA_congr {X : HM} {A : Int → HA} {F C F' C' : Int → Int} {j : Int} (h1 : F j = F' j) (h2 : C j = C' j) : X.mA A F C j = X.mA A F' C' j := by
 unfold HM.mA
 rw [h1, h2]
theorem updIf {f g : Int → Int} {k : Int} (j : Int) : upd (fun j => if j < k then f j else g j) k (f k) j = if j < k + 1 then f j else g j := by
 unfold upd
 by_cases e : j = k
 ·rw [if_pos e, if_pos (by omega), e]
 ·rw [if_neg e]
  dsimp only
  by_cases c : j < k
  ·rw [if_pos c, if_pos (by omega)]
  ·rw [if_neg c, if_neg (by omega)]
theorem d7_of {X : HM} {i : Int} (hT : Took X i) (hf : ∀ j : Int, 0 ≤ j → j < X.mem → 0 ≤ (X.ac j).fund) {o1 o2 : Int → Int} (h1 : Shr (X.t2 i) X.mem (X.WF i) o1) (h2 : Shr (X.t3 i) X.mem (X.WG i) o2) {j : Int} (j0 : 0 ≤ j) (j1 : j < X.mem) :
  upd (X.mA (X.tkG i 12) (fun j => (X.ac j).fund - o1 j) (fun j => (X.ac j).cash + -(o2 j))) (i - 1) { X.tkG i 12 (i - 1) with cash := 0, fund := (X.acct i).fund - X.t0 i, out := true } j = (X.d7 i).ac j := by
 have e1 := shF_eq (h1.congr (W' := (X.d3 i).spW HA.fund i) (fun j j0 j1 => (wf_eq (hf j j0 j1)).symm) fun _ _ _ => rfl) j j0 j1
 have e2 := shF_eq (h2.congr (W' := (X.d4 i).spW HA.cash i) (fun j j0 j1 => wg_eq.symm) fun _ _ _ => rfl) j j0 j1
 by_cases e : j = i - 1
 ·rw [e, upd_same]
  obtain ⟨a, b, c, d⟩ := d7_own (X := X) (i := i)
  exact HA.ext4 a.symm b.symm d.symm c.symm
 ·rw [upd_ne _ _ e]
  obtain ⟨a, b, _, _, _, _, c, d⟩ := d7_oth hT j0 j1 e
  rw [e1] at c
  rw [e2] at d
  refine HA.ext4 ?_ ?_ ?_ ?_
  ·rw [d]; show (X.ac j).cash + -(o2 j) = _; omega
  ·rw [c]; rfl
  ·rw [b]; rfl
  ·rw [a]; rfl
theorem GRo.setK {R : List (Option Blk)} {X : HM} {K : GK} {pb ab cb : Option Blk} {qb : Nat → Option Blk} {f : Int → HA} (h : GRo R { X with ac := f } K pb ab cb qb) {k : Int} {a : HA} {L : List Value} {c : Option Blk} (hp : a.pos = (f k).pos) (hr : SRow (.slice K.aa X.mem K.ac) 49 4 X.mem (upd (fun i => gacL (f i) (K.qa i) X.mn (K.qc i)) k L) c) (e : L = gacL a (K.qa k) X.mn (K.qc k)) : GRo R { X with ac := upd f k a } K pb c cb qb := by
 refine ⟨h.pr, hr.congr fun j _ _ => ?_, h.cr, fun j hj => ?_, h.ms, h.vv⟩
 ·show _ = gacL (upd f k a j) (K.qa j) X.mn (K.qc j)
  unfold upd
  split
  ·rename_i ej; rw [ej]; exact e
  ·rfl
 ·have h1 := h.qr j hj
  refine IRow.congr h1 fun m _ _ => ?_
  show iv ((f j).pos m) = iv ((upd f k a j).pos m)
  unfold upd
  split
  ·rename_i ej; rw [hp, ej]
  ·rfl
theorem GRo.capH {R : List (Option Blk)} {X : HM} {K : GK} {pb ab cb : Option Blk} {qb : Nat → Option Blk} {f : Int → HA} (h : GRo R { X with ac := f } K pb ab cb qb) (c o : Int) : GRo R { X with ac := f, cap := c, hole := o } K pb ab cb qb := ⟨h.pr, h.ar, h.cr, h.qr, h.ms, h.vv⟩
theorem d7_v (X : HM) (i : Int) (L : GK) : ghL (X.d7 i) L = ghL { X with cap := X.cap - X.t1 i, hole := X.hole + X.l4 i } L := by
 have h : X.d7 i = { X with ac := (X.d7 i).ac, cap := X.cap - X.t1 i, hole := X.hole + X.l4 i } := by
  rw [← (d7_cap X i).1, ← d7_hole]
  exact d7_eq X i
 rw [h]
 simp only [ghL, HM.mn]
theorem d7_mem (X : HM) (i : Int) : (X.d7 i).mem = X.mem := by rw [d7_eq]
theorem d0_setV (X : HM) (i : Int) (a : HA) (L : GK) : ghL ((X.d0 i).setA i a) L = ghL X L := by simp only [ghL, HM.setA, HM.d0, HM.mn]
set_option maxHeartbeats 2000000 in
theorem gDefault_any (X : HM) (K : GK) (i : Int) (R : List (Option Blk)) (j B : Nat) (H : List (Option Blk)) (w0 w : World) (hO : Own B w0 w H) (hK : GIn R X K) (hs : R.Sublist H) (hX : HB j X) (hj : j < 100) (hm20 : X.mem < 20) (hZ : HZ X) :
  Calls Try.prog 82 #[.agg (ghL X K).toArray, iv i] w fun e w' => ∃ v, e = .returned (.tuple #[v, .agg (lossV (X.loss i)).toArray, iv (X.act i)]) ∧ ((X.act i = 0 ∧ GNew B w0 w' v (X.dflt i) R H) ∨ (X.act i ≠ 0 ∧ GSame B w0 w' v X K H)) := by
 have hg := hX.gg (by omega)
 have hG := hg.g
 have hmem := hX.mem
 have hmo := hX.mo
 have hmn := X.mn_eq hmo.1
 obtain ⟨ab0, ao, ea, ra⟩ := hK.av.at (by decide) (hO.sub hs) (by omega)
 refine calls_of_run (F := [(0, _), (1, _)]) Try.func82 rfl Try.ntmps82 rfl rfl <| run_seq <| run_region <| rl_ow rfl (ow_box _ rfl rfl rfl rfl rfl hO) ?_
 rintro _ w1 ⟨b2, rfl, hO2, hs3⟩
 refine rl_ow rfl (ow_alloc _ rfl rfl rfl zero_34 rfl hO2) ?_
 rintro _ w4 ⟨b4, rfl, hO5, hs6⟩
 refine rl_ow rfl (ow_alloc _ rfl rfl rfl zero_152 rfl hO5) ?_
 rintro _ w7 ⟨b5, rfl, hO8, hs9⟩
 refine rl_v rfl rfl rfl (ov_assign rfl rfl) <| rl_nil <| run_seq <| run_seq <| run_region <| rl_v rfl rfl rfl (ov_loadW rfl Try.underlying34 rfl (by kernel_rfl) rfl hO8 2 rfl) ?_
 refine rl_v rfl rfl rfl (ov_move rfl rfl) ?_
 refine rl_call callable_36 rfl rfl rfl rfl rfl rfl (gMember_any X K i B _ w0 w7 hO8) (fun e10 w11 hp12 => ?_)
 obtain ⟨rfl, hO1⟩ := hp12
 refine ⟨_, rfl, ?_⟩
 refine rl_v rfl rfl rfl (ov_not rfl rfl) <| rl_nil ?_
 first | refine run_cond_dec rfl (fun c1 => ?_) (fun c1 => ?_) | refine run_cond rfl (fun c1 => ?_) (fun c1 => ?_)
 ·have ea4 : X.act i = 4 := if_neg (ndt c1)
  have el : X.loss i = [0, 0, 0, 0, 0] := if_neg fun h => by rw [ea4] at h; exact absurd h.1 (by decide)
  refine run_seq <| run_region <| rl_v rfl rfl rfl (ov_loadW rfl Try.underlying34 rfl (by kernel_rfl) rfl hO1 2 rfl) ?_
  refine rl_v rfl rfl rfl (ov_buildL rfl lay_152 rfl (us := [_, _, _, _, _]) rfl) <| rl_ow rfl (ow_storeW rfl rfl (by kernel_rfl) hO1 1 rfl rfl (by rfl) rfl (by rfl)) ?_
  rintro _ w13 ⟨rfl, hO14, hs15⟩
  refine rl_ow rfl (ow_storeW rfl rfl (by kernel_rfl) hO14 0 rfl rfl (by rfl) rfl (by rfl)) ?_
  rintro _ w16 ⟨rfl, hO17, hs18⟩
  refine rl_v rfl rfl rfl (ov_assign rfl rfl) <| rl_nil <| run_ret Try.func82 (resWWV Try.results82 rfl rfl rfl Try.underlying34 rfl (by kernel_rfl) Try.underlying152 rfl (by kernel_rfl) hO17 1 0 rfl rfl) ?_
  exact ⟨_, by rw [ea4, el]; rfl, .inr ⟨by rw [ea4]; decide, rfl, hO17.tail.tail.tail⟩⟩
 ·have hi : X.is i := ndf c1
  have hi2 : 1 ≤ i ∧ i ≤ X.mem := hi
  refine run_skip <| run_seq <| run_seq <| run_region <| rl_v rfl rfl rfl (ov_fieldS rfl Try.underlying34 rfl (fo := 7) rfl (by kernel_rfl) rfl) ?_
  refine rl_v rfl rfl rfl (ov_load rfl Try.underlying31 rfl rfl (by exact hO1.cellL 2 rfl (off := 7) rfl)) ?_
  refine rl_v rfl rfl rfl (ov_move rfl rfl) <| rl_v rfl rfl rfl (ov_sub rfl rfl rfl (by omega)) ?_
  refine rl_v rfl rfl rfl (ov_index rfl Try.underlying31 (by kernel_rfl) (s := 4) rfl rfl ⟨by omega, by omega⟩ (by exact (id ea))) ?_
  refine rl_v rfl rfl rfl (ov_fieldS rfl Try.underlying49 rfl (fo := 3) rfl (by kernel_rfl) rfl) ?_
  refine rl_v rfl rfl rfl (ov_load rfl Try.underlying4 rfl rfl (by exact (show _ = some (.bool (X.acct i).out) from ra (hO1.sub (.cons _ (.cons _ (.cons _ hs)))) (i - 1) (by omega) (by omega) 3 (by decide)))) ?_
  refine rl_nil ?_
  first | refine run_cond_dec rfl (fun o1 => ?_) (fun o1 => ?_) | refine run_cond rfl (fun o1 => ?_) (fun o1 => ?_)
  ·have ea5 : X.act i = 5 := (if_pos hi).trans (if_pos o1)
   have el : X.loss i = [0, 0, 0, 0, 0] := if_neg fun h => by rw [ea5] at h; exact absurd h.1 (by decide)
   refine run_seq <| run_region <| rl_v rfl rfl rfl (ov_loadW rfl Try.underlying34 rfl (by kernel_rfl) rfl hO1 2 rfl) ?_
   refine rl_v rfl rfl rfl (ov_buildL rfl lay_152 rfl (us := [_, _, _, _, _]) rfl) <| rl_ow rfl (ow_storeW rfl rfl (by kernel_rfl) hO1 1 rfl rfl (by rfl) rfl (by rfl)) ?_
   rintro _ w19 ⟨rfl, hO20, hs21⟩
   refine rl_ow rfl (ow_storeW rfl rfl (by kernel_rfl) hO20 0 rfl rfl (by rfl) rfl (by rfl)) ?_
   rintro _ w22 ⟨rfl, hO23, hs24⟩
   refine rl_v rfl rfl rfl (ov_assign rfl rfl) <| rl_nil <| run_ret Try.func82 (resWWV Try.results82 rfl rfl rfl Try.underlying34 rfl (by kernel_rfl) Try.underlying152 rfl (by kernel_rfl) hO23 1 0 rfl rfl) ?_
   exact ⟨_, by rw [ea5, el]; rfl, .inr ⟨by rw [ea5]; decide, rfl, hO23.tail.tail.tail⟩⟩
  ·have ea0 : X.act i = 0 := (if_pos hi).trans (if_neg (by rw [o1]; exact Bool.noConfusion))
   refine run_skip <| run_seq <| run_region <| rl_v rfl rfl rfl (ov_loadW rfl Try.underlying34 rfl (by kernel_rfl) rfl hO1 2 rfl) ?_
   refine rl_call callable_118 rfl rfl rfl rfl rfl rfl (gFork_any X K R B _ w0 w11 hO1 hK (.cons _ (.cons _ (.cons _ hs))) hg) (fun e25 w26 hp27 => ?_)
   obtain ⟨L, pb, ab, cb, qb, rfl, hL, hO2⟩ := hp27
   refine ⟨_, rfl, ?_⟩
   refine rl_ow rfl (ow_storeW rfl rfl (by kernel_rfl) hO2 (X.mem + 2 + 3) ((get_aft3 2 rfl)) rfl (by rfl) rfl (by rfl)) ?_
   rintro _ w28 ⟨rfl, hO29, hs30⟩
   have hO3 : Own B w0 w28 (GL X pb ab cb qb (some (lch b5 152 lsz) :: some (lch b4 34 ghz) :: some (lch b2 34 (ghL X L)) :: H)) := Own.setA3 (m := X.mem) 2 hO29
   refine rl_nil <| run_seq <| run_seq <| run_region <| rl_v rfl rfl rfl (ov_assign rfl rfl) <| rl_nil <| run_block <| Run.keep [1, 2, 4, 5, 7] (F' := [(1, _), (2, _), (4, _), (5, _), (7, _)]) rfl <| run_loop2 (fun (m : Int) (qb : Nat → Option Blk) => [(7, .int .i64 m)]) [1, 2, 4, 5] (fun (m : Int) (qb : Nat → Option Blk) (w31 : World) => (0 ≤ m ∧ m ≤ X.mo) ∧ GRo R { X with ac := X.tkG i m } L pb ab cb qb ∧ Own B w0 w31 (GL X pb ab cb qb (some (lch b5 152 lsz) :: some (lch b4 34 ghz) :: some (lch b2 34 (ghL X L)) :: H))) (fun (m : Int) (qb : Nat → Option Blk) => (X.mo - m).toNat) (0) (qb) ?_ (And.intro (by exact slot_int rfl (by first | omega)) (And.intro rfl (And.intro rfl (And.intro rfl (And.intro rfl trivial))))) ?_
   ·exact ⟨by omega, tk_zero i hL, hO3⟩
   intro m qb w31 hIw31 ih32
   obtain ⟨hm, hLm, hO4⟩ := hIw31
   show Run _ _ _ _ [(7, _), (1, _), (2, _), (4, _), (5, _)] _ _
   refine run_seq <| run_seq <| run_region <| rl_v rfl rfl rfl (ov_move rfl rfl) <| rl_v rfl rfl rfl (ov_fieldS rfl Try.underlying34 rfl (fo := 6) rfl (by kernel_rfl) rfl) ?_
   refine rl_v rfl rfl rfl (ov_load rfl Try.underlying22 rfl rfl (by exact hO4.cellL (X.mem + 2 + 3) (get_aft3 2 rfl) (off := 6) rfl)) ?_
   refine rl_v rfl rfl rfl (ov_len rfl Try.underlying22 rfl) <| rl_v rfl rfl rfl (ov_lss rfl rfl rfl) <| rl_nil ?_
   first | refine run_cond_dec rfl (fun h1 => ?_) (fun h1 => ?_) | refine run_cond rfl (fun h1 => ?_) (fun h1 => ?_)
   ·have hm12 : m < 12 := by omega
    have hpj : ∀ j : Int, 0 ≤ j → j < X.mem → ((X.ac j).pos m).natAbs ≤ 1000000 := fun j j0 j1 => hG.pos j j0 j1 m hm.1 hm12
    have hx : ((X.acct i).pos m).natAbs ≤ 1000000 := hpj (i - 1) (by omega) (by omega)
    have hgin := hLm.gin (H := some (lch b5 152 lsz) :: some (lch b4 34 ghz) :: some (lch b2 34 (ghL X L)) :: H) (.cons _ (.cons _ (.cons _ hs)))
    obtain ⟨xb, xo, ex, rx⟩ := hgin.av.at (by decide) hO4 (show 0 < X.mem by omega)
    obtain ⟨yb, yo, ey, ry⟩ := (hgin.qv (i - 1) (by omega) (show i - 1 < (X.mem : Int) by omega)).at hO4 (show 0 < X.mn by omega)
    refine run_skip <| run_seq <| run_block <| run_seq <| run_region <| rl_v rfl rfl rfl (ov_fieldS rfl Try.underlying34 rfl (fo := 7) rfl (by kernel_rfl) rfl) ?_
    refine rl_v rfl rfl rfl (ov_load rfl Try.underlying31 rfl rfl (by exact hO4.cellL (X.mem + 2 + 3) (get_aft3 2 rfl) (off := 7) rfl)) ?_
    refine rl_v rfl rfl rfl (ov_move rfl rfl) <| rl_v rfl rfl rfl (ov_sub rfl rfl rfl (by omega)) ?_
    refine rl_v rfl rfl rfl (ov_index rfl Try.underlying31 (by kernel_rfl) (s := 4) rfl rfl ⟨by omega, by omega⟩ (by exact (id ex))) ?_
    refine rl_v rfl rfl rfl (ov_fieldS rfl Try.underlying49 rfl (fo := 2) rfl (by kernel_rfl) rfl) ?_
    refine rl_v rfl rfl rfl (ov_load rfl Try.underlying22 rfl rfl (by exact (show _ = some (.slice (L.qa (i - 1)) X.mn (L.qc (i - 1))) from rx hO4 (i - 1) (by omega) (show i - 1 < (X.mem : Int) by omega) 2 (by decide)))) ?_
    refine rl_v rfl rfl rfl (ov_move rfl rfl) <| rl_v rfl rfl rfl (ov_index1 rfl Try.underlying22 (by kernel_rfl) rfl rfl ⟨by omega, by omega⟩ (by exact (id ey))) ?_
    refine rl_v rfl rfl rfl (ov_load rfl Try.underlying2 rfl rfl (by exact (show _ = some (iv ((X.acct i).pos m)) from (ry hO4 m hm.1 (show m < (X.mn : Int) by omega)).trans (congrArg (fun x => some (iv x)) (tkG_pos X i m (i - 1)))))) ?_
    refine rl_v rfl rfl rfl (ov_assign rfl rfl) <| rl_nil <| run_seq <| run_region <| rl_v rfl rfl rfl (ov_assign rfl rfl) <| rl_nil <| run_seq <| run_seq <| run_region <| rl_v rfl rfl rfl (ov_move rfl rfl) <| rl_v rfl rfl rfl (ov_lss rfl rfl rfl) <| rl_nil <| Run.keep [1, 2, 4, 5, 7, 8, 9, 59] (F' := [(1, _), (2, _), (4, _), (5, _), (7, _), (8, _), (9, _), (59, _)]) rfl <| run_join1 (fun (s : Int) => [(9, .int .i64 s)]) [1, 2, 4, 5, 7, 8] (fun (s : Int) (w33 : World) => s = sgn ((X.acct i).pos m) ∧ Own B w0 w33 (GL X pb ab cb qb (some (lch b5 152 lsz) :: some (lch b4 34 ghz) :: some (lch b2 34 (ghL X L)) :: H))) (fun hk34 => ?_) ?_
    ·first | refine run_cond_dec rfl (fun hneg => ?_) (fun hneg => ?_) | refine run_cond rfl (fun hneg => ?_) (fun hneg => ?_)
     ·refine run_region <| rl_v rfl rfl rfl (ov_assign rfl rfl) <| rl_nil ?_
      refine Run.use (hk34 (-1) _ ?_) (And.intro (by exact slot_int rfl (by first | omega)) (And.intro rfl (And.intro rfl (And.intro rfl (And.intro rfl (And.intro rfl (And.intro rfl trivial)))))))
      exact ⟨(if_pos hneg).symm, hO4⟩
     ·refine run_skip ?_
      refine Run.use (hk34 (1) _ ?_) (And.intro (by exact slot_int rfl (by first | omega)) (And.intro rfl (And.intro rfl (And.intro rfl (And.intro rfl (And.intro rfl (And.intro rfl trivial)))))))
      exact ⟨(if_neg hneg).symm, hO4⟩
    ·intro s w33 hJw33
     obtain ⟨hs1, hO5⟩ := hJw33
     show Run _ _ _ _ [(9, _), (1, _), (2, _), (4, _), (5, _), (7, _), (8, _)] _ _
     have hs2 : s = 1 ∨ s = -1 := by rw [hs1]; exact sgn_one _
     have hsx : s * (X.acct i).pos m = (X.acct i).pos m * s := Int.mul_comm _ _
     have htot : 0 ≤ s * (X.acct i).pos m ∧ s * (X.acct i).pos m ≤ 1000000 := by rw [hs1, sgn_mul]; omega
     refine run_seq <| run_region <| rl_v rfl rfl rfl (ov_fieldS rfl Try.underlying34 rfl (fo := 7) rfl (by kernel_rfl) rfl) ?_
     refine rl_v rfl rfl rfl (ov_load rfl Try.underlying31 rfl rfl (by exact hO5.cellL (X.mem + 2 + 3) (get_aft3 2 rfl) (off := 7) rfl)) ?_
     refine rl_v rfl rfl rfl (ov_len rfl Try.underlying31 rfl) <| rl_ow rfl (ow_make (X.mem) rfl rfl rfl Try.underlying22 info_2 rfl hO5 rfl rfl (by rfl) (by rfl) ⟨by omega, by omega⟩) ?_
     rintro _ w35 ⟨b10, rfl, hO36, hs37⟩
     refine rl_v rfl rfl rfl (ov_assign rfl rfl) <| rl_nil <| run_seq <| run_seq <| run_region <| rl_v rfl rfl rfl (ov_assign rfl rfl) <| rl_nil <| run_block <| Run.keep [1, 2, 4, 5, 7, 8, 9, 10, 11] (F' := [(1, _), (2, _), (4, _), (5, _), (7, _), (8, _), (9, _), (10, _), (11, _)]) rfl <| run_loop1 (fun (q : Int) => [(11, .int .i64 q)]) [1, 2, 4, 5, 7, 8, 9, 10] (fun (q : Int) (w38 : World) => (0 ≤ q ∧ q ≤ X.mem) ∧ Own B w0 w38 (some (vch b10 2 X.mem (fun t => iv (if t < q then X.wt i m s t else 0))) :: GL X pb ab cb qb (some (lch b5 152 lsz) :: some (lch b4 34 ghz) :: some (lch b2 34 (ghL X L)) :: H))) (fun (q : Int) => ((X.mem : Int) - q).toNat) (0) ?_ (And.intro (by exact slot_int rfl (by first | omega)) (And.intro rfl (And.intro rfl (And.intro rfl (And.intro rfl (And.intro rfl (And.intro rfl (And.intro rfl (And.intro rfl trivial))))))))) ?_
     ·exact ⟨by omega, hO36.congrI 0 rfl (G' := fun t => iv (if t < (0 : Int) then X.wt i m s t else 0)) (fun t t0 _ => by rw [if_neg (by omega)])⟩
     intro q w38 hIw38 ih39
     obtain ⟨hq, hO6⟩ := hIw38
     show Run _ _ _ _ [(11, _), (1, _), (2, _), (4, _), (5, _), (7, _), (8, _), (9, _), (10, _)] _ _
     refine run_seq <| run_seq <| run_region <| rl_v rfl rfl rfl (ov_move rfl rfl) <| rl_v rfl rfl rfl (ov_move rfl rfl) <| rl_v rfl rfl rfl (ov_len rfl Try.underlying22 rfl) <| rl_v rfl rfl rfl (ov_lss rfl rfl rfl) <| rl_nil ?_
     first | refine run_cond_dec rfl (fun h2 => ?_) (fun h2 => ?_) | refine run_cond rfl (fun h2 => ?_) (fun h2 => ?_)
     ·obtain ⟨zb, zo, ez, rz⟩ := (hgin.qv q hq.1 (show q < (X.mem : Int) by omega)).at hO6.tail (show 0 < X.mn by omega)
      have hpq := hpj q hq.1 h2
      have hmul := mulAbs (a := -s) (b := (X.ac q).pos m) (A := 1) (B := 1000000) (by omega) hpq
      refine run_skip <| run_seq <| run_block <| run_seq <| run_region <| rl_v rfl rfl rfl (ov_move rfl rfl) <| rl_v rfl rfl rfl (ov_move rfl rfl) <| rl_v rfl rfl rfl (ov_sub rfl rfl rfl (by omega)) ?_
      refine rl_v rfl rfl rfl (ov_neq rfl rfl rfl) <| rl_v rfl rfl rfl (ov_move rfl rfl) ?_
      first | refine rl_split_dec 74 rfl (fun e1 => ?_) (fun e1 => ?_) | refine rl_split 74 rfl (fun e1 => ?_) (fun e1 => ?_)
      ·refine rl_gv rfl rfl rfl rfl rfl (ov_fieldS rfl Try.underlying34 rfl (fo := 7) rfl (by kernel_rfl) rfl) ?_
       refine rl_gv rfl rfl rfl rfl rfl (ov_load rfl Try.underlying31 rfl rfl (by exact hO6.cellL (X.mem + 2 + 4) (get_aft4 2 rfl) (off := 7) rfl)) ?_
       refine rl_gv rfl rfl rfl rfl rfl (ov_move rfl rfl) <| rl_gv rfl rfl rfl rfl rfl (ov_index rfl Try.underlying31 (by kernel_rfl) (s := 4) rfl rfl ⟨by omega, by omega⟩ (by exact (id ex))) ?_
       refine rl_gv rfl rfl rfl rfl rfl (ov_fieldS rfl Try.underlying49 rfl (fo := 3) rfl (by kernel_rfl) rfl) ?_
       refine rl_gv rfl rfl rfl rfl rfl (ov_load rfl Try.underlying4 rfl rfl (by exact (show _ = some (.bool (X.ac q).out) from rx hO6.tail q (by omega) (show q < (X.mem : Int) by omega) 3 (by decide)))) ?_
       refine rl_gv rfl rfl rfl rfl rfl (ov_not rfl rfl) <| rl_v rfl rfl rfl (ov_pick_t rfl rfl rfl) <| rl_nil ?_
       first | refine run_cond_dec rfl (fun o2 => ?_) (fun o2 => ?_) | refine run_cond rfl (fun o2 => ?_) (fun o2 => ?_)
       ·refine run_region <| rl_v rfl rfl rfl (ov_move rfl rfl) <| rl_v rfl rfl rfl (ov_move rfl rfl) <| rl_v rfl rfl rfl (ov_move rfl rfl) <| rl_v rfl rfl rfl (ov_neg rfl rfl (by omega)) ?_
        refine rl_v rfl rfl rfl (ov_fieldS rfl Try.underlying34 rfl (fo := 7) rfl (by kernel_rfl) rfl) ?_
        refine rl_v rfl rfl rfl (ov_load rfl Try.underlying31 rfl rfl (by exact hO6.cellL (X.mem + 2 + 4) (get_aft4 2 rfl) (off := 7) rfl)) ?_
        refine rl_v rfl rfl rfl (ov_move rfl rfl) <| rl_v rfl rfl rfl (ov_index rfl Try.underlying31 (by kernel_rfl) (s := 4) rfl rfl ⟨by omega, by omega⟩ (by exact (id ex))) ?_
        refine rl_v rfl rfl rfl (ov_fieldS rfl Try.underlying49 rfl (fo := 2) rfl (by kernel_rfl) rfl) ?_
        refine rl_v rfl rfl rfl (ov_load rfl Try.underlying22 rfl rfl (by exact (show _ = some (.slice (L.qa q) X.mn (L.qc q)) from rx hO6.tail q (by omega) (show q < (X.mem : Int) by omega) 2 (by decide)))) ?_
        refine rl_v rfl rfl rfl (ov_move rfl rfl) <| rl_v rfl rfl rfl (ov_index1 rfl Try.underlying22 (by kernel_rfl) rfl rfl ⟨by omega, by omega⟩ (by exact (id ez))) ?_
        refine rl_v rfl rfl rfl (ov_load rfl Try.underlying2 rfl rfl (by exact (show _ = some (iv ((X.ac q).pos m)) from (rz hO6.tail m hm.1 (show m < (X.mn : Int) by omega)).trans (congrArg (fun x => some (iv x)) (tkG_pos X i m q))))) ?_
        refine rl_v rfl rfl rfl (ov_mul rfl rfl rfl (by omega)) ?_
        refine rl_v rfl rfl rfl (ov_max rfl rfl rfl) <| rl_v rfl rfl rfl (ov_index1 rfl Try.underlying22 (by kernel_rfl) rfl rfl ⟨by omega, by omega⟩ (by rfl)) ?_
        refine rl_ow rfl (ow_storeI rfl rfl (by kernel_rfl) hO6 0 rfl rfl ⟨by omega, by omega⟩ rfl) ?_
        rintro _ w41 ⟨rfl, hO42, hs43⟩
        have ew : max 0 (-s * (X.ac q).pos m) = X.wt i m s q := by
         unfold HM.wt HM.othP
         rw [if_pos (by simpa [e1] using o2)]
        refine rl_nil <| run_inBlock <| run_region <| rl_v rfl rfl rfl (ov_move rfl rfl) <| rl_v rfl rfl rfl (ov_add rfl rfl rfl (by omega)) ?_
        refine rl_v rfl rfl rfl (ov_assign rfl rfl) <| rl_nil ?_
        refine Run.use (ih39 (q + 1) _ ?_ ?_) (And.intro (by exact slot_int rfl (by first | omega)) (And.intro rfl (And.intro rfl (And.intro rfl (And.intro rfl (And.intro rfl (And.intro rfl (And.intro rfl (And.intro rfl trivial)))))))))
        ·first | omega | (dsimp only; omega)
        ·exact ⟨by omega, hO42.congrI 0 rfl (G' := fun t => iv (if t < q + 1 then X.wt i m s t else 0)) (fun t _ _ => congrArg iv (upd_lt ew t))⟩
       ·have ew : X.wt i m s q = 0 := by
         unfold HM.wt HM.othP
         rw [if_neg (by simpa [e1] using o2)]
        refine run_skip <| run_inBlock <| run_region <| rl_v rfl rfl rfl (ov_move rfl rfl) <| rl_v rfl rfl rfl (ov_add rfl rfl rfl (by omega)) ?_
        refine rl_v rfl rfl rfl (ov_assign rfl rfl) <| rl_nil ?_
        refine Run.use (ih39 (q + 1) _ ?_ ?_) (And.intro (by exact slot_int rfl (by first | omega)) (And.intro rfl (And.intro rfl (And.intro rfl (And.intro rfl (And.intro rfl (And.intro rfl (And.intro rfl (And.intro rfl trivial)))))))))
        ·first | omega | (dsimp only; omega)
        ·exact ⟨by omega, hO6.congrI 0 rfl (G' := fun t => iv (if t < q + 1 then X.wt i m s t else 0)) (fun t _ _ => congrArg iv (lt_skip ew t))⟩
      ·have ew : X.wt i m s q = 0 := by
        unfold HM.wt HM.othP
        rw [if_neg (by simp [e1])]
       refine rl_gskip rfl rfl rfl rfl rfl rfl <| rl_gskip rfl rfl rfl rfl rfl rfl <| rl_gskip rfl rfl rfl rfl rfl rfl <| rl_gskip rfl rfl rfl rfl rfl rfl <| rl_gskip rfl rfl rfl rfl rfl rfl <| rl_gskip rfl rfl rfl rfl rfl rfl <| rl_gskip rfl rfl rfl rfl rfl rfl <| rl_v rfl rfl rfl (ov_pick_f rfl rfl rfl) <| rl_nil <| run_cond_f rfl <| run_skip <| run_inBlock <| run_region <| rl_v rfl rfl rfl (ov_move rfl rfl) <| rl_v rfl rfl rfl (ov_add rfl rfl rfl (by omega)) ?_
       refine rl_v rfl rfl rfl (ov_assign rfl rfl) <| rl_nil ?_
       refine Run.use (ih39 (q + 1) _ ?_ ?_) (And.intro (by exact slot_int rfl (by first | omega)) (And.intro rfl (And.intro rfl (And.intro rfl (And.intro rfl (And.intro rfl (And.intro rfl (And.intro rfl (And.intro rfl trivial)))))))))
       ·first | omega | (dsimp only; omega)
       ·exact ⟨by omega, hO6.congrI 0 rfl (G' := fun t => iv (if t < q + 1 then X.wt i m s t else 0)) (fun t _ _ => congrArg iv (lt_skip ew t))⟩
     ·obtain rfl : q = X.mem := by omega
      have hO7 := hO6.congrI 0 rfl (G' := fun t => iv (X.wt i m s t)) (fun t _ t1 => by rw [if_pos t1])
      have hwb : ∀ t : Int, 0 ≤ t → t < X.mem → 0 ≤ X.wt i m s t ∧ X.wt i m s t ≤ 1000000 := fun t t0 t1 => by
       have h3 := hpj t t0 t1
       have h4 := mulAbs (a := -s) (b := (X.ac t).pos m) (A := 1) (B := 1000000) (by omega) h3
       refine ⟨wt_nonneg _ _ _ _ _, ?_⟩
       unfold HM.wt
       split <;> omega
      refine run_exit rfl <| run_seq <| run_region <| rl_v rfl rfl rfl (ov_move rfl rfl) <| rl_v rfl rfl rfl (ov_move rfl rfl) <| rl_v rfl rfl rfl (ov_mul rfl rfl rfl (by omega)) ?_
      refine rl_v rfl rfl rfl (ov_move rfl rfl) ?_
      refine rl_call callable_124 rfl rfl rfl rfl rfl rfl (gShare_any (s * (X.acct i).pos m) (some ⟨b10, 0, none⟩) X.mem X.mem B (X.wt i m s) _ w0 w38 hO7 (srcI_vch 0 rfl (by omega)) hm20 (fun t t0 t1 => by have := hwb t t0 t1; omega) ⟨htot.1, wt_sum hZ hi2 hm.1 hm12 hs2⟩) (fun e44 w45 hp46 => ?_)
      obtain ⟨b12, out, rfl, hshr, hO8⟩ := hp46
      refine ⟨_, rfl, ?_⟩
      have hout := hshr.rng htot.1 fun t t0 t1 => (hwb t t0 t1).1
      have hO9 := Own.intoT (hO8.sub (.cons_cons _ (.cons _ (.refl _))))
      replace hO9 : Own B w0 w45 (GL X pb ab cb qb (some (vch b12 2 X.mem (fun i => iv (out i))) :: some (lch b5 152 lsz) :: some (lch b4 34 ghz) :: some (lch b2 34 (ghL X L)) :: H)) := hO9
      refine rl_v rfl rfl rfl (ov_assign rfl rfl) <| rl_nil <| run_seq <| run_seq <| run_region <| rl_v rfl rfl rfl (ov_assign rfl rfl) <| rl_nil <| run_block <| Run.keep [1, 2, 4, 5, 7, 8, 9, 12, 13] (F' := [(1, _), (2, _), (4, _), (5, _), (7, _), (8, _), (9, _), (12, _), (13, _)]) rfl <| run_loop2 (fun (k : Int) (qb : Nat → Option Blk) => [(13, .int .i64 k)]) [1, 2, 4, 5, 7, 8, 9, 12] (fun (k : Int) (qb : Nat → Option Blk) (w47 : World) => (0 ≤ k ∧ k ≤ X.mem) ∧ GRo R { X with ac := tkH X i m s out k } L pb ab cb qb ∧ Own B w0 w47 (GL X pb ab cb qb (some (vch b12 2 X.mem (fun i => iv (out i))) :: some (lch b5 152 lsz) :: some (lch b4 34 ghz) :: some (lch b2 34 (ghL X L)) :: H))) (fun (k : Int) (qb : Nat → Option Blk) => ((X.mem : Int) - k).toNat) (0) (qb) ?_ (And.intro (by exact slot_int rfl (by first | omega)) (And.intro rfl (And.intro rfl (And.intro rfl (And.intro rfl (And.intro rfl (And.intro rfl (And.intro rfl (And.intro rfl trivial))))))))) ?_
      ·exact ⟨by omega, hLm.acs (X := X) (f := X.tkG i m) fun j j0 _ => (if_neg (by omega)).symm, hO9⟩
      intro k qb w47 hIw47 ih48
      obtain ⟨hk, hLk, hO10⟩ := hIw47
      show Run _ _ _ _ [(13, _), (1, _), (2, _), (4, _), (5, _), (7, _), (8, _), (9, _), (12, _)] _ _
      refine run_seq <| run_seq <| run_region <| rl_v rfl rfl rfl (ov_move rfl rfl) <| rl_v rfl rfl rfl (ov_move rfl rfl) <| rl_v rfl rfl rfl (ov_len rfl Try.underlying22 rfl) <| rl_v rfl rfl rfl (ov_lss rfl rfl rfl) <| rl_nil ?_
      first | refine run_cond_dec rfl (fun h3 => ?_) (fun h3 => ?_) | refine run_cond rfl (fun h3 => ?_) (fun h3 => ?_)
      ·have hok := hout k hk.1 h3
       have hpk := hpj k hk.1 h3
       have hmk := mulAbs (a := s) (b := out k) (A := 1) (B := 1000000) (by omega) (by omega)
       have hpe : ((({ X with ac := tkH X i m s out k } : HM)).acct (k + 1)).pos m = (X.ac k).pos m := by
        show (tkH X i m s out k (k + 1 - 1)).pos m = _
        rw [show k + 1 - 1 = k by omega, tkH_pos (Int.le_refl k)]
       refine run_skip <| run_seq <| run_block <| run_late (fun w' => Own B w0 w' ([some (vch b12 2 X.mem (fun i => iv (out i))), some (lch b2 34 (ghL X L))])) 11 mixed ?_
       have hO50 := hO10.drew
       generalize World.drew w47 = w49 at hO50 ⊢
       have hS51 : Own B w0 w49 ([some (vch b12 2 X.mem (fun i => iv (out i))), some (lch b2 34 (ghL X L))]) := by exact hO50.sub (sub_aft (.cons_cons _ (.cons _ (.cons _ (.cons_cons _ (List.nil_sublist _))))))
       refine rhl_v 0 rfl (by kernel_rfl) rfl rfl rfl hS51 (fun _ hS => ov_loadW rfl Try.underlying34 rfl (by kernel_rfl) rfl hS 1 rfl) ?_
       refine rhl_v 1 rfl (by kernel_rfl) rfl rfl rfl hS51 (fun _ hS => ov_move rfl rfl) ?_
       refine rhl_v 2 rfl (by kernel_rfl) rfl rfl rfl hS51 (fun _ hS => ov_add rfl rfl rfl (by omega)) ?_
       refine rhl_v 3 rfl (by kernel_rfl) rfl rfl rfl hS51 (fun _ hS => ov_move rfl rfl) ?_
       refine rhl_v 4 rfl (by kernel_rfl) rfl rfl rfl hS51 (fun _ hS => ov_move rfl rfl) ?_
       refine rhl_v 5 rfl (by kernel_rfl) rfl rfl rfl hS51 (fun _ hS => ov_move rfl rfl) ?_
       refine rhl_v 6 rfl (by kernel_rfl) rfl rfl rfl hS51 (fun _ hS => ov_move rfl rfl) ?_
       refine rhl_v 7 rfl (by kernel_rfl) rfl rfl rfl hS51 (fun _ hS => ov_index1 rfl Try.underlying22 (by kernel_rfl) rfl rfl ⟨by omega, by omega⟩ (by rfl)) ?_
       refine rhl_v 8 rfl (by kernel_rfl) rfl rfl rfl hS51 (fun _ hS => ov_load rfl Try.underlying2 rfl rfl (by exact hS.cellI 0 rfl k hk.1 h3)) ?_
       refine rhl_v 9 rfl (by kernel_rfl) rfl rfl rfl hS51 (fun _ hS => ov_mul rfl rfl rfl (by omega)) ?_
       refine rhl_any1 10 (by kernel_rfl) ?_
       refine rcl_op rfl rfl (ow_call2 callable_121 rfl rfl rfl rfl rfl (gHold_any { X with ac := tkH X i m s out k } L (k + 1) m (s * out k) R pb ab cb qb B _ w0 w49 hO50 hLk (show 1 ≤ k + 1 ∧ k + 1 ≤ (X.mem : Int) by omega) (show X.mem ≤ 64 by omega) hmo ⟨hm.1, (show m < X.mo by omega)⟩ (by rw [hpe]; omega)) (by intro e w' hp; obtain ⟨rfl, qb2, hL2, hOb⟩ := hp; exact ⟨_, rfl⟩)) ?_
       rintro _ w54 ⟨_, v52, he55, rfl, hp53⟩
       obtain ⟨rfl, qb2, hL2, hOb⟩ := hp53
       injection he55 with he55; subst he55
       have hS56 : Own B w0 w54 ([some (vch b12 2 X.mem (fun i => iv (out i))), some (lch b2 34 (ghL X L))]) := by exact hOb.sub (sub_aft (.cons_cons _ (.cons _ (.cons _ (.cons_cons _ (List.nil_sublist _))))))
       refine ⟨hS56, ?_⟩
       refine rhl_any1 11 (by kernel_rfl) ?_
       refine rcl_last rfl rfl (ow_storeW rfl rfl (by kernel_rfl) hOb (X.mem + 3 + 3) ((get_aft3 3 rfl)) rfl (by rfl) rfl (by rfl)) ?_
       rintro _ w57 ⟨rfl, hO58, hs59⟩
       have hO11 := Own.setA3 (m := X.mem) 3 hO58
       have hL3 : GRo R { X with ac := tkH X i m s out (k + 1) } L pb ab cb qb2 := GRo.acs (X := X) (f := upd (tkH X i m s out k) (k + 1 - 1) { tkH X i m s out k (k + 1 - 1) with pos := upd (tkH X i m s out k (k + 1 - 1)).pos m ((tkH X i m s out k (k + 1 - 1)).pos m + s * out k) }) hL2 fun t _ _ => by rw [show k + 1 - 1 = k by omega]; exact tkH_step t
       refine rhl_done (by kernel_rfl) ?_
       refine run_inBlock <| run_region <| rl_v rfl rfl rfl (ov_move rfl rfl) <| rl_v rfl rfl rfl (ov_add rfl rfl rfl (by omega)) ?_
       refine rl_v rfl rfl rfl (ov_assign rfl rfl) <| rl_nil ?_
       refine Run.use (ih48 (k + 1) (qb2) _ ?_ ?_) (And.intro (by exact slot_int rfl (by first | omega)) (And.intro rfl (And.intro rfl (And.intro rfl (And.intro rfl (And.intro rfl (And.intro rfl (And.intro rfl (And.intro rfl trivial)))))))))
       ·first | omega | (dsimp only; omega)
       ·exact ⟨by omega, hL3, hO11⟩
      ·obtain rfl : k = X.mem := by omega
       have hZm := hZ
       rw [hs1] at hshr hLk
       have hpe2 : ((({ X with ac := tkH X i m (sgn ((X.acct i).pos m)) out X.mem } : HM)).acct i).pos m = (X.acct i).pos m + sgn ((X.acct i).pos m) * out (i - 1) := by
        show (tkH X i m (sgn ((X.acct i).pos m)) out X.mem (i - 1)).pos m = _
        unfold tkH
        rw [if_pos (by omega)]
        show upd (X.tkG i m (i - 1)).pos m _ m = _
        rw [upd_same, tkG_pos]
        rfl
       have hpe3 := (tkP_of hi2 hZ hm.1 hm12 hshr (j := i - 1) (by omega) (by omega)).2 rfl
       rw [hpe3, Int.mul_zero, Int.add_zero] at hpe2
       refine run_exit rfl <| run_region <| rl_v rfl rfl rfl (ov_loadW rfl Try.underlying34 rfl (by kernel_rfl) rfl hO10 (X.mem+3+3) ((get_aft3 3 rfl))) ?_
       refine rl_v rfl rfl rfl (ov_move rfl rfl) <| rl_v rfl rfl rfl (ov_move rfl rfl) <| rl_v rfl rfl rfl (ov_move rfl rfl) <| rl_v rfl rfl rfl (ov_neg rfl rfl (by omega)) ?_
       refine rl_call callable_121 rfl rfl rfl rfl rfl rfl (gHold_any { X with ac := tkH X i m (sgn ((X.acct i).pos m)) out X.mem } L i m (-(X.acct i).pos m) R pb ab cb qb B _ w0 w47 hO10 hLk hi2 (show X.mem ≤ 64 by omega) hmo ⟨hm.1, show m < X.mo by omega⟩ (by rw [hpe2]; omega)) (fun e60 w61 hp62 => ?_)
       obtain ⟨rfl, qb3, hL5, hOc⟩ := hp62
       refine ⟨_, rfl, ?_⟩
       refine rl_ow rfl (ow_storeW rfl rfl (by kernel_rfl) hOc (X.mem + 3 + 3) ((get_aft3 3 rfl)) rfl (by rfl) rfl (by rfl)) ?_
       rintro _ w63 ⟨rfl, hO64, hs65⟩
       have hO12 := Own.setA3 (m := X.mem) 3 hO64
       have hL6 : GRo R { X with ac := X.tkG i (m + 1) } L pb ab cb qb3 := GRo.acs (X := X) (f := upd (tkH X i m (sgn ((X.acct i).pos m)) out X.mem) (i - 1) { tkH X i m (sgn ((X.acct i).pos m)) out X.mem (i - 1) with pos := upd (tkH X i m (sgn ((X.acct i).pos m)) out X.mem (i - 1)).pos m ((tkH X i m (sgn ((X.acct i).pos m)) out X.mem (i - 1)).pos m + -(X.acct i).pos m) }) hL5 fun t t0 t1 => tkH_done hi2 hZ hm.1 hm12 hshr t0 t1
       refine rl_nil <| run_inBlock <| run_region <| rl_v rfl rfl rfl (ov_move rfl rfl) <| rl_v rfl rfl rfl (ov_add rfl rfl rfl (by omega)) ?_
       refine rl_v rfl rfl rfl (ov_assign rfl rfl) <| rl_nil ?_
       refine Run.use (ih32 (m + 1) (qb3) _ ?_ ?_) (And.intro (by exact slot_int rfl (by first | omega)) (And.intro rfl (And.intro rfl (And.intro rfl (And.intro rfl trivial)))))
       ·first | omega | (dsimp only; omega)
       ·exact ⟨by omega, hL6, hO12.sub (.cons_cons _ (.cons_cons _ (.cons_cons _ (List.Sublist.append_left (.cons _ (.refl _)) _))))⟩
   ·obtain rfl : m = X.mo := by omega
    have hL0 : GRo R { X with ac := X.tkG i 12 } L pb ab cb qb := d0_of hmo hLm
    have hO13 := Own.outs [some (lch b5 152 lsz), some (lch b4 34 ghz), some (lch b2 34 (ghL X L))] hO4
    replace hO13 : Own B w0 w31 (some (lch b5 152 lsz) :: some (lch b4 34 ghz) :: some (lch b2 34 (ghL X L)) :: GL X pb ab cb qb H) := hO13
    have hfu0 : ∀ j : Int, 0 ≤ j → j < X.mem → 0 ≤ (X.ac j).fund := fun j j0 j1 => (hG.fund j j0 j1).1
    have hfui : 0 ≤ (X.acct i).fund ∧ (X.acct i).fund ≤ 10000000000000000 := hG.fund (i - 1) (by omega) (by omega)
    have hcai : (X.acct i).cash.natAbs ≤ 10000000000000000 := hG.cash (i - 1) (by omega) (by omega)
    have hac : X.acct i = X.ac (i - 1) := rfl
    have hl0 : X.l0 i = -(X.acct i).cash := rfl
    obtain ⟨a0, ea2, hcap2⟩ := hL0.ar.atZero (show 1 ≤ X.mem by omega)
    refine run_exit rfl <| run_seq <| run_region <| rl_ow rfl (ow_alloc _ rfl rfl rfl zero_152 rfl hO13) ?_
    rintro _ w66 ⟨b14, rfl, hO67, hs68⟩
    obtain ⟨a1, e9, rx9⟩ := hL0.ar.openS hO67 5 rfl
    have e8 := e9 (show 0 < X.mem by omega)
    rw [ea2] at e8
    cases e8
    have rx8 : ∀ t : Int, 0 ≤ t → t < (X.mem : Int) → ∀ fo, fo < 4 → World.cell? w66 ⟨a0, 0 + t.toNat * 4 + fo, none⟩ = some ((gacL (X.tkG i 12 t) (L.qa t) X.mn (L.qc t)).getD fo undef) := rx9
    have hi0 : 0 ≤ i - 1 ∧ i - 1 < (X.mem : Int) := by omega
    refine rl_nil <| run_seq <| run_region <| rl_v rfl rfl rfl (ov_fieldS rfl Try.underlying34 rfl (fo := 7) rfl (by kernel_rfl) rfl) ?_
    refine rl_v rfl rfl rfl (ov_load rfl Try.underlying31 rfl rfl (by exact hO67.cellL 3 rfl (off := 7) rfl)) ?_
    refine rl_v rfl rfl rfl (ov_move rfl rfl) <| rl_v rfl rfl rfl (ov_sub rfl rfl rfl (by omega)) ?_
    refine rl_v rfl rfl rfl (ov_index rfl Try.underlying31 (by kernel_rfl) (s := 4) rfl rfl ⟨by omega, by omega⟩ (by exact (id ea2))) ?_
    refine rl_v rfl rfl rfl (ov_loadE rfl Try.underlying49 rfl (by kernel_rfl) rfl ⟨by omega, by omega⟩ rfl (rx8)) ?_
    refine rl_ow rfl (ow_alloc _ rfl rfl rfl zero_49 rfl hO67) ?_
    rintro _ w69 ⟨b15, rfl, hO70, hs71⟩
    refine rl_ow rfl (ow_storeW rfl rfl (by kernel_rfl) hO70 0 rfl rfl (by rfl) rfl (by rfl)) ?_
    rintro _ w72 ⟨rfl, hO73, hs74⟩
    refine rl_nil <| run_seq <| run_seq <| run_region <| rl_v rfl rfl rfl (ov_fieldS rfl Try.underlying49 rfl (fo := 0) rfl (by kernel_rfl) rfl) ?_
    refine rl_v rfl rfl rfl (ov_load rfl Try.underlying2 rfl rfl (by exact (show _ = some (iv (X.acct i).cash) from hO73.cellL 0 rfl (off := 0) rfl))) ?_
    refine rl_v rfl rfl rfl (ov_lss rfl rfl rfl) <| rl_nil ?_
    first | refine run_cond_dec rfl (fun hl => ?_) (fun hl => ?_) | refine run_cond rfl (fun hl => ?_) (fun hl => ?_)
    ·have hl' : 0 < X.l0 i := by omega
     have hT := took hl' (by omega) hG.cap.1
     have hcap := hG.cap
     have hhole := hG.hole
     have t0 := hT.t0
     have t1 := hT.t1
     have t2 := hT.t2
     have t3 := hT.t3
     have l4 := hT.l4
     have all := hT.all
     have hl1 : X.l1 i = X.l0 i - X.t0 i := rfl
     have hl2 : X.l2 i = X.l1 i - X.t1 i := rfl
     have hl3 : X.l3 i = X.l2 i - X.t2 i := rfl
     have hl4 : X.l4 i = X.l3 i - X.t3 i := rfl
     have et0 : min (X.l0 i) (X.acct i).fund = X.t0 i := by omega
     have et1 : min (X.l1 i) X.cap = X.t1 i := by omega
     refine run_seq <| run_region <| rl_v rfl rfl rfl (ov_fieldS rfl Try.underlying49 rfl (fo := 0) rfl (by kernel_rfl) rfl) ?_
     refine rl_v rfl rfl rfl (ov_load rfl Try.underlying2 rfl rfl (by exact (show _ = some (iv (X.acct i).cash) from hO73.cellL 0 rfl (off := 0) rfl))) ?_
     refine rl_v rfl rfl rfl (nv (ov_neg rfl rfl (by omega)) (show _ = X.l0 i from rfl)) ?_
     refine rl_v rfl rfl rfl (ov_assign rfl rfl) <| rl_nil <| run_seq <| run_region <| rl_v rfl rfl rfl (ov_fieldS rfl Try.underlying49 rfl (fo := 0) rfl (by kernel_rfl) rfl) ?_
     refine rl_ow rfl (ow_storeL rfl rfl (by kernel_rfl) hO73 0 rfl rfl rfl rfl rfl) ?_
     rintro _ w75 ⟨rfl, hO76, hs77⟩
     refine rl_nil <| run_seq <| run_region <| rl_v rfl rfl rfl (ov_move rfl rfl) <| rl_v rfl rfl rfl (ov_fieldS rfl Try.underlying49 rfl (fo := 1) rfl (by kernel_rfl) rfl) ?_
     refine rl_v rfl rfl rfl (ov_load rfl Try.underlying2 rfl rfl (by exact (show _ = some (iv (X.acct i).fund) from hO76.cellL 0 rfl (off := 1) rfl))) ?_
     refine rl_v rfl rfl rfl (nv (ov_min rfl rfl rfl) et0) <| rl_v rfl rfl rfl (ov_fieldS rfl Try.underlying152 rfl (fo := 0) rfl (by kernel_rfl) rfl) ?_
     refine rl_ow rfl (ow_storeL rfl rfl (by kernel_rfl) hO76 1 rfl rfl rfl rfl rfl) ?_
     rintro _ w78 ⟨rfl, hO79, hs80⟩
     refine rl_nil <| run_seq <| run_region <| rl_v rfl rfl rfl (ov_fieldS rfl Try.underlying49 rfl (fo := 1) rfl (by kernel_rfl) rfl) ?_
     refine rl_v rfl rfl rfl (ov_load rfl Try.underlying2 rfl rfl (by exact (show _ = some (iv (X.acct i).fund) from hO79.cellL 0 rfl (off := 1) rfl))) ?_
     refine rl_v rfl rfl rfl (ov_fieldS rfl Try.underlying152 rfl (fo := 0) rfl (by kernel_rfl) rfl) ?_
     refine rl_v rfl rfl rfl (ov_load rfl Try.underlying2 rfl rfl (by exact hO79.cellL 1 rfl (off := 0) rfl)) ?_
     refine rl_v rfl rfl rfl (ov_sub rfl rfl rfl (by omega)) ?_
     refine rl_v rfl rfl rfl (ov_fieldS rfl Try.underlying49 rfl (fo := 1) rfl (by kernel_rfl) rfl) ?_
     refine rl_ow rfl (ow_storeL rfl rfl (by kernel_rfl) hO79 0 rfl rfl rfl rfl rfl) ?_
     rintro _ w81 ⟨rfl, hO82, hs83⟩
     refine rl_nil <| run_seq <| run_region <| rl_v rfl rfl rfl (ov_move rfl rfl) <| rl_v rfl rfl rfl (ov_fieldS rfl Try.underlying152 rfl (fo := 0) rfl (by kernel_rfl) rfl) ?_
     refine rl_v rfl rfl rfl (ov_load rfl Try.underlying2 rfl rfl (by exact hO82.cellL 1 rfl (off := 0) rfl)) ?_
     refine rl_v rfl rfl rfl (nv (ov_sub rfl rfl rfl (by omega)) hl1.symm) ?_
     refine rl_v rfl rfl rfl (ov_assign rfl rfl) <| rl_nil <| run_seq <| run_region <| rl_v rfl rfl rfl (ov_move rfl rfl) <| rl_v rfl rfl rfl (ov_fieldS rfl Try.underlying34 rfl (fo := 9) rfl (by kernel_rfl) rfl) ?_
     refine rl_v rfl rfl rfl (ov_load rfl Try.underlying2 rfl rfl (by exact (show _ = some (iv X.cap) from hO82.cellL 4 rfl (off := 9) rfl))) ?_
     refine rl_v rfl rfl rfl (nv (ov_min rfl rfl rfl) et1) <| rl_v rfl rfl rfl (ov_fieldS rfl Try.underlying152 rfl (fo := 1) rfl (by kernel_rfl) rfl) ?_
     refine rl_ow rfl (ow_storeL rfl rfl (by kernel_rfl) hO82 1 rfl rfl rfl rfl rfl) ?_
     rintro _ w84 ⟨rfl, hO85, hs86⟩
     refine rl_nil <| run_seq <| run_region <| rl_v rfl rfl rfl (ov_fieldS rfl Try.underlying34 rfl (fo := 9) rfl (by kernel_rfl) rfl) ?_
     refine rl_v rfl rfl rfl (ov_load rfl Try.underlying2 rfl rfl (by exact (show _ = some (iv X.cap) from hO85.cellL 4 rfl (off := 9) rfl))) ?_
     refine rl_v rfl rfl rfl (ov_fieldS rfl Try.underlying152 rfl (fo := 1) rfl (by kernel_rfl) rfl) ?_
     refine rl_v rfl rfl rfl (ov_load rfl Try.underlying2 rfl rfl (by exact hO85.cellL 1 rfl (off := 1) rfl)) ?_
     refine rl_v rfl rfl rfl (ov_sub rfl rfl rfl (by omega)) ?_
     refine rl_v rfl rfl rfl (ov_fieldS rfl Try.underlying34 rfl (fo := 9) rfl (by kernel_rfl) rfl) ?_
     refine rl_ow rfl (ow_storeL rfl rfl (by kernel_rfl) hO85 4 rfl rfl rfl rfl rfl) ?_
     rintro _ w87 ⟨rfl, hO88, hs89⟩
     have hO14 : Own B w0 w87 (some (lch b15 49 (gacL { X.tkG i 12 (i - 1) with cash := 0, fund := (X.acct i).fund - X.t0 i } (L.qa (i - 1)) X.mn (L.qc (i - 1)))) :: some (lch b14 152 [iv (X.t0 i), iv (X.t1 i), iv 0, iv 0, iv 0]) :: some (lch b5 152 lsz) :: some (lch b4 34 ghz) :: some (lch b2 34 (ghL { X with cap := X.cap - X.t1 i } L)) :: GL X pb ab cb qb H) := hO88
     refine rl_nil <| run_seq <| run_region <| rl_v rfl rfl rfl (ov_move rfl rfl) <| rl_v rfl rfl rfl (ov_fieldS rfl Try.underlying152 rfl (fo := 1) rfl (by kernel_rfl) rfl) ?_
     refine rl_v rfl rfl rfl (ov_load rfl Try.underlying2 rfl rfl (by exact hO14.cellL 1 rfl (off := 1) rfl)) ?_
     refine rl_v rfl rfl rfl (nv (ov_sub rfl rfl rfl (by omega)) hl2.symm) ?_
     refine rl_v rfl rfl rfl (ov_assign rfl rfl) <| rl_nil <| run_seq <| run_region <| rl_v rfl rfl rfl (ov_fieldS rfl Try.underlying34 rfl (fo := 7) rfl (by kernel_rfl) rfl) ?_
     refine rl_v rfl rfl rfl (ov_load rfl Try.underlying31 rfl rfl (by exact hO14.cellL 4 rfl (off := 7) rfl)) ?_
     refine rl_v rfl rfl rfl (ov_len rfl Try.underlying31 rfl) <| rl_ow rfl (ow_make (X.mem) rfl rfl rfl Try.underlying22 info_2 rfl hO14 rfl rfl (by rfl) (by rfl) ⟨by omega, by omega⟩) ?_
     rintro _ w90 ⟨b17, rfl, hO91, hs92⟩
     refine rl_v rfl rfl rfl (ov_assign rfl rfl) <| rl_nil <| run_seq <| run_seq <| run_region <| rl_v rfl rfl rfl (ov_assign rfl rfl) <| rl_nil <| run_block <| Run.keep [1, 2, 4, 5, 14, 15, 16, 17, 18] (F' := [(1, _), (2, _), (4, _), (5, _), (14, _), (15, _), (16, _), (17, _), (18, _)]) rfl <| run_loop1 (fun (q : Int) => [(18, .int .i64 q)]) [1, 2, 4, 5, 14, 15, 16, 17] (fun (q : Int) (w93 : World) => (0 ≤ q ∧ q ≤ X.mem) ∧ Own B w0 w93 (some (vch b17 2 X.mem (fun t => iv (if t < q then X.WF i t else 0))) :: some (lch b15 49 (gacL { X.tkG i 12 (i - 1) with cash := 0, fund := (X.acct i).fund - X.t0 i } (L.qa (i - 1)) X.mn (L.qc (i - 1)))) :: some (lch b14 152 [iv (X.t0 i), iv (X.t1 i), iv 0, iv 0, iv 0]) :: some (lch b5 152 lsz) :: some (lch b4 34 ghz) :: some (lch b2 34 (ghL { X with cap := X.cap - X.t1 i } L)) :: GL X pb ab cb qb H)) (fun (q : Int) => ((X.mem : Int) - q).toNat) (0) ?_ (And.intro (by exact slot_int rfl (by first | omega)) (And.intro rfl (And.intro rfl (And.intro rfl (And.intro rfl (And.intro rfl (And.intro rfl (And.intro rfl (And.intro rfl trivial))))))))) ?_
     ·exact ⟨by omega, hO91.congrI 0 rfl (G' := fun t => iv (if t < (0 : Int) then X.WF i t else 0)) (fun t t0 _ => by rw [if_neg (by omega)])⟩
     intro q w93 hIw93 ih94
     obtain ⟨hq, hO15⟩ := hIw93
     show Run _ _ _ _ [(18, _), (1, _), (2, _), (4, _), (5, _), (14, _), (15, _), (16, _), (17, _)] _ _
     refine run_seq <| run_seq <| run_region <| rl_v rfl rfl rfl (ov_move rfl rfl) <| rl_v rfl rfl rfl (ov_move rfl rfl) <| rl_v rfl rfl rfl (ov_len rfl Try.underlying22 rfl) <| rl_v rfl rfl rfl (ov_lss rfl rfl rfl) <| rl_nil ?_
     first | refine run_cond_dec rfl (fun h4 => ?_) (fun h4 => ?_) | refine run_cond rfl (fun h4 => ?_) (fun h4 => ?_)
     ·obtain ⟨a3, e7, ry9⟩ := hL0.ar.openS hO15 7 rfl
      have e6 := e7 (show 0 < X.mem by omega)
      rw [ea2] at e6
      cases e6
      refine run_skip <| run_seq <| run_block <| run_seq <| run_region <| rl_v rfl rfl rfl (ov_move rfl rfl) <| rl_v rfl rfl rfl (ov_move rfl rfl) <| rl_v rfl rfl rfl (ov_sub rfl rfl rfl (by omega)) ?_
      refine rl_v rfl rfl rfl (ov_neq rfl rfl rfl) <| rl_v rfl rfl rfl (ov_move rfl rfl) ?_
      first | refine rl_split_dec 184 rfl (fun e1 => ?_) (fun e1 => ?_) | refine rl_split 184 rfl (fun e1 => ?_) (fun e1 => ?_)
      ·refine rl_gv rfl rfl rfl rfl rfl (ov_fieldS rfl Try.underlying34 rfl (fo := 7) rfl (by kernel_rfl) rfl) ?_
       refine rl_gv rfl rfl rfl rfl rfl (ov_load rfl Try.underlying31 rfl rfl (by exact hO15.cellL 5 rfl (off := 7) rfl)) ?_
       refine rl_gv rfl rfl rfl rfl rfl (ov_move rfl rfl) <| rl_gv rfl rfl rfl rfl rfl (ov_index rfl Try.underlying31 (by kernel_rfl) (s := 4) rfl rfl ⟨by omega, by omega⟩ (by exact (id ea2))) ?_
       refine rl_gv rfl rfl rfl rfl rfl (ov_fieldS rfl Try.underlying49 rfl (fo := 3) rfl (by kernel_rfl) rfl) ?_
       refine rl_gv rfl rfl rfl rfl rfl (ov_load rfl Try.underlying4 rfl rfl (by exact (show _ = some (.bool (X.ac q).out) from ry9 q (by omega) (show q < (X.mem : Int) by omega) 3 (by decide)))) ?_
       refine rl_gv rfl rfl rfl rfl rfl (ov_not rfl rfl) <| rl_v rfl rfl rfl (ov_pick_t rfl rfl rfl) <| rl_nil ?_
       first | refine run_cond_dec rfl (fun o2 => ?_) (fun o2 => ?_) | refine run_cond rfl (fun o2 => ?_) (fun o2 => ?_)
       ·refine run_region <| rl_v rfl rfl rfl (ov_move rfl rfl) <| rl_v rfl rfl rfl (ov_move rfl rfl) <| rl_v rfl rfl rfl (ov_fieldS rfl Try.underlying34 rfl (fo := 7) rfl (by kernel_rfl) rfl) ?_
        refine rl_v rfl rfl rfl (ov_load rfl Try.underlying31 rfl rfl (by exact hO15.cellL 5 rfl (off := 7) rfl)) ?_
        refine rl_v rfl rfl rfl (ov_move rfl rfl) <| rl_v rfl rfl rfl (ov_index rfl Try.underlying31 (by kernel_rfl) (s := 4) rfl rfl ⟨by omega, by omega⟩ (by exact (id ea2))) ?_
        refine rl_v rfl rfl rfl (ov_fieldS rfl Try.underlying49 rfl (fo := 1) rfl (by kernel_rfl) rfl) ?_
        refine rl_v rfl rfl rfl (ov_load rfl Try.underlying2 rfl rfl (by exact (show _ = some (iv (X.ac q).fund) from ry9 q (by omega) (show q < (X.mem : Int) by omega) 1 (by decide)))) ?_
        refine rl_v rfl rfl rfl (ov_index1 rfl Try.underlying22 (by kernel_rfl) rfl rfl ⟨by omega, by omega⟩ (by rfl)) ?_
        refine rl_ow rfl (ow_storeI rfl rfl (by kernel_rfl) hO15 0 rfl rfl ⟨by omega, by omega⟩ rfl) ?_
        rintro _ w96 ⟨rfl, hO97, hs98⟩
        have ew : (X.ac q).fund = X.WF i q := by
         unfold HM.WF HM.othP
         rw [if_pos (by simpa [e1] using o2)]
        refine rl_nil <| run_inBlock <| run_region <| rl_v rfl rfl rfl (ov_move rfl rfl) <| rl_v rfl rfl rfl (ov_add rfl rfl rfl (by omega)) ?_
        refine rl_v rfl rfl rfl (ov_assign rfl rfl) <| rl_nil ?_
        refine Run.use (ih94 (q + 1) _ ?_ ?_) (And.intro (by exact slot_int rfl (by first | omega)) (And.intro rfl (And.intro rfl (And.intro rfl (And.intro rfl (And.intro rfl (And.intro rfl (And.intro rfl (And.intro rfl trivial)))))))))
        ·first | omega | (dsimp only; omega)
        ·exact ⟨by omega, hO97.congrI 0 rfl (G' := fun t => iv (if t < q + 1 then X.WF i t else 0)) (fun t _ _ => congrArg iv (upd_lt ew t))⟩
       ·have ew : X.WF i q = 0 := by
         unfold HM.WF HM.othP
         rw [if_neg (by simpa [e1] using o2)]
        refine run_skip <| run_inBlock <| run_region <| rl_v rfl rfl rfl (ov_move rfl rfl) <| rl_v rfl rfl rfl (ov_add rfl rfl rfl (by omega)) ?_
        refine rl_v rfl rfl rfl (ov_assign rfl rfl) <| rl_nil ?_
        refine Run.use (ih94 (q + 1) _ ?_ ?_) (And.intro (by exact slot_int rfl (by first | omega)) (And.intro rfl (And.intro rfl (And.intro rfl (And.intro rfl (And.intro rfl (And.intro rfl (And.intro rfl (And.intro rfl trivial)))))))))
        ·first | omega | (dsimp only; omega)
        ·exact ⟨by omega, hO15.congrI 0 rfl (G' := fun t => iv (if t < q + 1 then X.WF i t else 0)) (fun t _ _ => congrArg iv (lt_skip ew t))⟩
      ·have ew : X.WF i q = 0 := by
        unfold HM.WF HM.othP
        rw [if_neg (by simp [e1])]
       refine rl_gskip rfl rfl rfl rfl rfl rfl <| rl_gskip rfl rfl rfl rfl rfl rfl <| rl_gskip rfl rfl rfl rfl rfl rfl <| rl_gskip rfl rfl rfl rfl rfl rfl <| rl_gskip rfl rfl rfl rfl rfl rfl <| rl_gskip rfl rfl rfl rfl rfl rfl <| rl_gskip rfl rfl rfl rfl rfl rfl <| rl_v rfl rfl rfl (ov_pick_f rfl rfl rfl) <| rl_nil <| run_cond_f rfl <| run_skip <| run_inBlock <| run_region <| rl_v rfl rfl rfl (ov_move rfl rfl) <| rl_v rfl rfl rfl (ov_add rfl rfl rfl (by omega)) ?_
       refine rl_v rfl rfl rfl (ov_assign rfl rfl) <| rl_nil ?_
       refine Run.use (ih94 (q + 1) _ ?_ ?_) (And.intro (by exact slot_int rfl (by first | omega)) (And.intro rfl (And.intro rfl (And.intro rfl (And.intro rfl (And.intro rfl (And.intro rfl (And.intro rfl (And.intro rfl trivial)))))))))
       ·first | omega | (dsimp only; omega)
       ·exact ⟨by omega, hO15.congrI 0 rfl (G' := fun t => iv (if t < q + 1 then X.WF i t else 0)) (fun t _ _ => congrArg iv (lt_skip ew t))⟩
     ·obtain rfl : q = X.mem := by omega
      have hO16 := hO15.congrI 0 rfl (G' := fun t => iv (X.WF i t)) (fun t _ t1 => by rw [if_pos t1])
      have hwf : ∀ t : Int, 0 ≤ t → t < X.mem → 0 ≤ X.WF i t ∧ X.WF i t ≤ 100000000000000000 := fun t t0 t1 => by
       have h9 := hG.fund t t0 t1
       unfold HM.WF
       split <;> omega
      have hsf : X.t2 i ≤ sm (X.WF i) X.mem := by have := t2_eq (i := i) hfu0; omega
      refine run_exit rfl <| run_seq <| run_region <| rl_v rfl rfl rfl (ov_move rfl rfl) <| rl_v rfl rfl rfl (ov_move rfl rfl) ?_
      refine rl_call callable_125 rfl rfl rfl rfl rfl rfl (gSum_any (some ⟨b17, 0, none⟩) X.mem X.mem B (X.WF i) _ w0 w93 hO16 (srcI_vch 0 rfl (by omega)) hm20 hwf) (fun e99 w100 hp101 => ?_)
      obtain ⟨rfl, hO17⟩ := hp101
      refine ⟨_, rfl, ?_⟩
      refine rl_v rfl rfl rfl (nv (ov_min rfl rfl rfl) (t2_eq hfu0)) <| rl_v rfl rfl rfl (ov_fieldS rfl Try.underlying152 rfl (fo := 2) rfl (by kernel_rfl) rfl) ?_
      refine rl_ow rfl (ow_storeL rfl rfl (by kernel_rfl) hO17 2 rfl rfl rfl rfl rfl) ?_
      rintro _ w102 ⟨rfl, hO103, hs104⟩
      refine rl_nil <| run_seq <| run_region <| rl_v rfl rfl rfl (ov_fieldS rfl Try.underlying152 rfl (fo := 2) rfl (by kernel_rfl) rfl) ?_
      refine rl_v rfl rfl rfl (ov_load rfl Try.underlying2 rfl rfl (by exact hO103.cellL 2 rfl (off := 2) rfl)) ?_
      refine rl_v rfl rfl rfl (ov_move rfl rfl) ?_
      refine rl_call callable_124 rfl rfl rfl rfl rfl rfl (gShare_any (X.t2 i) (some ⟨b17, 0, none⟩) X.mem X.mem B (X.WF i) _ w0 w102 hO103 (srcI_vch 0 rfl (by omega)) hm20 hwf ⟨t2.1, hsf⟩) (fun e105 w106 hp107 => ?_)
      obtain ⟨b19, o1, rfl, hsh1, hO18⟩ := hp107
      refine ⟨_, rfl, ?_⟩
      have ho1 := hsh1.rng t2.1 fun t t0 t1 => (hwf t t0 t1).1
      replace hO18 : Own B w0 w106 (some (vch b19 2 X.mem (fun i => iv (o1 i))) :: some (vch b17 2 X.mem (fun t => iv (X.WF i t))) :: some (lch b15 49 (gacL { X.tkG i 12 (i - 1) with cash := 0, fund := (X.acct i).fund - X.t0 i } (L.qa (i - 1)) X.mn (L.qc (i - 1)))) :: some (lch b14 152 [iv (X.t0 i), iv (X.t1 i), iv (X.t2 i), iv 0, iv 0]) :: some (lch b5 152 lsz) :: some (lch b4 34 ghz) :: some (lch b2 34 (ghL { X with cap := X.cap - X.t1 i } L)) :: GL X pb ab cb qb H) := hO18
      refine rl_v rfl rfl rfl (ov_assign rfl rfl) <| rl_nil <| run_seq <| run_region <| rl_v rfl rfl rfl (ov_fieldS rfl Try.underlying34 rfl (fo := 7) rfl (by kernel_rfl) rfl) ?_
      refine rl_v rfl rfl rfl (ov_load rfl Try.underlying31 rfl rfl (by exact hO18.cellL 6 rfl (off := 7) rfl)) ?_
      refine rl_v rfl rfl rfl (ov_len rfl Try.underlying31 rfl) <| rl_ow rfl (ow_make (X.mem) rfl rfl rfl Try.underlying22 info_2 rfl hO18 rfl rfl (by rfl) (by rfl) ⟨by omega, by omega⟩) ?_
      rintro _ w108 ⟨b20, rfl, hO109, hs110⟩
      have hM0 : GRo R { X with ac := X.mA (X.tkG i 12) (fun j => if j < (0 : Int) then (X.ac j).fund - o1 j else (X.ac j).fund) (fun j => (X.ac j).cash) } L pb ab cb qb := GRo.acs (X := X) (f := X.tkG i 12) hL0 fun t t0 _ => HA.ext4 rfl (if_neg (by omega)).symm rfl rfl
      refine rl_v rfl rfl rfl (ov_assign rfl rfl) <| rl_nil <| run_seq <| run_seq <| run_region <| rl_v rfl rfl rfl (ov_assign rfl rfl) <| rl_nil <| run_block <| Run.keep [1, 2, 4, 5, 14, 15, 16, 19, 20, 21] (F' := [(1, _), (2, _), (4, _), (5, _), (14, _), (15, _), (16, _), (19, _), (20, _), (21, _)]) rfl <| run_loop2 (fun (k : Int) (ab : Option Blk) => [(21, .int .i64 k)]) [1, 2, 4, 5, 14, 15, 16, 19, 20] (fun (k : Int) (ab : Option Blk) (w111 : World) => (0 ≤ k ∧ k ≤ X.mem) ∧ GRo R { X with ac := X.mA (X.tkG i 12) (fun j => if j < k then (X.ac j).fund - o1 j else (X.ac j).fund) (fun j => (X.ac j).cash) } L pb ab cb qb ∧ Own B w0 w111 (some (vch b20 2 X.mem (fun t => iv (if t < k then X.WG i t else 0))) :: some (vch b19 2 X.mem (fun i => iv (o1 i))) :: some (vch b17 2 X.mem (fun t => iv (X.WF i t))) :: some (lch b15 49 (gacL { X.tkG i 12 (i - 1) with cash := 0, fund := (X.acct i).fund - X.t0 i } (L.qa (i - 1)) X.mn (L.qc (i - 1)))) :: some (lch b14 152 [iv (X.t0 i), iv (X.t1 i), iv (X.t2 i), iv 0, iv 0]) :: some (lch b5 152 lsz) :: some (lch b4 34 ghz) :: some (lch b2 34 (ghL { X with cap := X.cap - X.t1 i } L)) :: GL X pb ab cb qb H)) (fun (k : Int) (ab : Option Blk) => ((X.mem : Int) - k).toNat) (0) (ab) ?_ (And.intro (by exact slot_int rfl (by first | omega)) (And.intro rfl (And.intro rfl (And.intro rfl (And.intro rfl (And.intro rfl (And.intro rfl (And.intro rfl (And.intro rfl (And.intro rfl trivial)))))))))) ?_
      ·exact ⟨by omega, hM0, hO109.congrI 0 rfl (G' := fun t => iv (if t < (0 : Int) then X.WG i t else 0)) (fun t t0 _ => by rw [if_neg (by omega)])⟩
      intro k ab w111 hIw111 ih112
      obtain ⟨hk, hLk, hO19⟩ := hIw111
      show Run _ _ _ _ [(21, _), (1, _), (2, _), (4, _), (5, _), (14, _), (15, _), (16, _), (19, _), (20, _)] _ _
      refine run_seq <| run_seq <| run_region <| rl_v rfl rfl rfl (ov_move rfl rfl) <| rl_v rfl rfl rfl (ov_move rfl rfl) <| rl_v rfl rfl rfl (ov_len rfl Try.underlying22 rfl) <| rl_v rfl rfl rfl (ov_lss rfl rfl rfl) <| rl_nil ?_
      first | refine run_cond_dec rfl (fun h5 => ?_) (fun h5 => ?_) | refine run_cond rfl (fun h5 => ?_) (fun h5 => ?_)
      ·have hok := ho1 k hk.1 h5
       have hfk := hG.fund k hk.1 h5
       obtain ⟨a4, e5, rk9⟩ := hLk.ar.openS hO19 9 rfl
       have e4 := e5 (show 0 < X.mem by omega)
       rw [ea2] at e4
       cases e4
       refine run_skip <| run_seq <| run_block <| run_seq <| run_region <| rl_v rfl rfl rfl (ov_fieldS rfl Try.underlying34 rfl (fo := 7) rfl (by kernel_rfl) rfl) ?_
       refine rl_v rfl rfl rfl (ov_load rfl Try.underlying31 rfl rfl (by exact hO19.cellL 7 rfl (off := 7) rfl)) ?_
       refine rl_v rfl rfl rfl (ov_move rfl rfl) <| rl_v rfl rfl rfl (ov_index rfl Try.underlying31 (by kernel_rfl) (s := 4) rfl rfl ⟨by omega, by omega⟩ (by exact (id ea2))) ?_
       refine rl_v rfl rfl rfl (ov_loadE rfl Try.underlying49 rfl (by kernel_rfl) rfl ⟨by omega, by omega⟩ rfl (rk9)) ?_
       refine rl_ow rfl (ow_alloc _ rfl rfl rfl zero_49 rfl hO19) ?_
       rintro _ w113 ⟨b22, rfl, hO114, hs115⟩
       refine rl_ow rfl (ow_storeW rfl rfl (by kernel_rfl) hO114 0 rfl rfl (by rfl) rfl (by rfl)) ?_
       rintro _ w116 ⟨rfl, hO117, hs118⟩
       refine rl_nil <| run_seq <| run_tail 8 mixed (by kernel_rfl) ?_
       have hO120 := hO117.drew
       generalize World.drew w116 = w119 at hO120 ⊢
       refine rt_v rfl rfl rfl (ov_fieldS rfl Try.underlying49 rfl (fo := 1) rfl (by kernel_rfl) rfl) ?_
       refine rt_v rfl rfl rfl (ov_load rfl Try.underlying2 rfl rfl (by exact (show _ = some (iv (X.ac k).fund) from (hO120.cellL 0 rfl (off := 1) rfl).trans (congrArg (fun x => some (iv x)) (if_neg (Int.lt_irrefl k)))))) ?_
       refine rt_v rfl rfl rfl (ov_move rfl rfl) <| rt_v rfl rfl rfl (ov_move rfl rfl) <| rt_v rfl rfl rfl (ov_index1 rfl Try.underlying22 (by kernel_rfl) rfl rfl ⟨by omega, by omega⟩ (by rfl)) ?_
       refine rt_v rfl rfl rfl (ov_load rfl Try.underlying2 rfl rfl (by exact hO120.cellI 2 rfl k hk.1 h5)) ?_
       refine rt_v rfl rfl rfl (ov_sub rfl rfl rfl (by omega)) ?_
       refine rt_v rfl rfl rfl (ov_fieldS rfl Try.underlying49 rfl (fo := 1) rfl (by kernel_rfl) rfl) ?_
       refine rt_nil <| rl_ow rfl (ow_storeL rfl rfl (by kernel_rfl) hO120 0 rfl rfl rfl rfl rfl) ?_
       rintro _ w121 ⟨rfl, hO122, hs123⟩
       refine rl_nil <| run_seq <| run_region <| rl_v rfl rfl rfl (ov_fieldS rfl Try.underlying34 rfl (fo := 7) rfl (by kernel_rfl) rfl) ?_
       refine rl_v rfl rfl rfl (ov_load rfl Try.underlying31 rfl rfl (by exact hO122.cellL 8 rfl (off := 7) rfl)) ?_
       refine rl_v rfl rfl rfl (ov_move rfl rfl) <| rl_v rfl rfl rfl (ov_loadW rfl Try.underlying49 rfl (by kernel_rfl) rfl hO122 0 rfl) ?_
       refine rl_v rfl rfl rfl (ov_index rfl Try.underlying31 (by kernel_rfl) (s := 4) rfl rfl ⟨by omega, by omega⟩ (by exact (id ea2))) ?_
       refine rl_ow rfl (ow_storeS rfl rfl (by kernel_rfl) hO122 hLk.ar (kk := 10) rfl (fun _ => ea2) rfl ⟨hk.1, h5⟩ rfl rfl (by kernel_rfl)) ?_
       rintro _ w124 ⟨ab9, rfl, hO125, hR9, hs126⟩
       have hM1 := GRo.setK (X := X) hLk (k := k) (a := { X.mA (X.tkG i 12) (fun j => if j < k then (X.ac j).fund - o1 j else (X.ac j).fund) (fun j => (X.ac j).cash) k with fund := (X.ac k).fund - o1 k }) rfl hR9 rfl
       have hM2 : GRo R { X with ac := X.mA (X.tkG i 12) (fun j => if j < k + 1 then (X.ac j).fund - o1 j else (X.ac j).fund) (fun j => (X.ac j).cash) } L pb ab9 cb qb := GRo.acs (X := X) hM1 fun t _ _ => (mA_fund t).trans (mA_congr (updIf (f := fun j => (X.ac j).fund - o1 j) (g := fun j => (X.ac j).fund) t) rfl)
       refine rl_nil <| run_seq <| run_region <| rl_v rfl rfl rfl (ov_move rfl rfl) <| rl_v rfl rfl rfl (ov_move rfl rfl) <| rl_v rfl rfl rfl (ov_sub rfl rfl rfl (by omega)) ?_
       refine rl_v rfl rfl rfl (ov_neq rfl rfl rfl) <| rl_v rfl rfl rfl (ov_move rfl rfl) ?_
       first | refine rl_split_dec 243 rfl (fun e1 => ?_) (fun e1 => ?_) | refine rl_split 243 rfl (fun e1 => ?_) (fun e1 => ?_)
       ·refine rl_gv rfl rfl rfl rfl rfl (ov_fieldS rfl Try.underlying49 rfl (fo := 3) rfl (by kernel_rfl) rfl) ?_
        refine rl_gv rfl rfl rfl rfl rfl (ov_load rfl Try.underlying4 rfl rfl (by exact (show _ = some (.bool (X.ac k).out) from hO125.cellL 0 rfl (off := 3) rfl))) ?_
        refine rl_gv rfl rfl rfl rfl rfl (ov_not rfl rfl) <| rl_v rfl rfl rfl (ov_pick_t rfl rfl rfl) <| rl_nil ?_
        first | refine run_cond_dec rfl (fun o2 => ?_) (fun o2 => ?_) | refine run_cond rfl (fun o2 => ?_) (fun o2 => ?_)
        ·refine run_region <| rl_v rfl rfl rfl (ov_move rfl rfl) <| rl_v rfl rfl rfl (ov_move rfl rfl) <| rl_v rfl rfl rfl (ov_fieldS rfl Try.underlying49 rfl (fo := 0) rfl (by kernel_rfl) rfl) ?_
         refine rl_v rfl rfl rfl (ov_load rfl Try.underlying2 rfl rfl (by exact (show _ = some (iv (X.ac k).cash) from hO125.cellL 0 rfl (off := 0) rfl))) ?_
         refine rl_v rfl rfl rfl (ov_max rfl rfl rfl) <| rl_v rfl rfl rfl (ov_index1 rfl Try.underlying22 (by kernel_rfl) rfl rfl ⟨by omega, by omega⟩ (by rfl)) ?_
         refine rl_ow rfl (ow_storeI rfl rfl (by kernel_rfl) hO125 1 rfl rfl ⟨by omega, by omega⟩ rfl) ?_
         rintro _ w128 ⟨rfl, hO129, hs130⟩
         have ew : max 0 (X.ac k).cash = X.WG i k := by
          unfold HM.WG HM.othP
          rw [if_pos (by simpa [e1] using o2)]
         refine rl_nil <| run_inBlock <| run_region <| rl_v rfl rfl rfl (ov_move rfl rfl) <| rl_v rfl rfl rfl (ov_add rfl rfl rfl (by omega)) ?_
         refine rl_v rfl rfl rfl (ov_assign rfl rfl) <| rl_nil ?_
         refine Run.use (ih112 (k + 1) (ab9) _ ?_ ?_) (And.intro (by exact slot_int rfl (by first | omega)) (And.intro rfl (And.intro rfl (And.intro rfl (And.intro rfl (And.intro rfl (And.intro rfl (And.intro rfl (And.intro rfl (And.intro rfl trivial))))))))))
         ·first | omega | (dsimp only; omega)
         ·exact ⟨by omega, hM2, hO129.tail.congrI 0 rfl (G' := fun t => iv (if t < k + 1 then X.WG i t else 0)) (fun t _ _ => congrArg iv (upd_lt ew t))⟩
        ·have ew : X.WG i k = 0 := by
          unfold HM.WG HM.othP
          rw [if_neg (by simpa [e1] using o2)]
         refine run_skip <| run_inBlock <| run_region <| rl_v rfl rfl rfl (ov_move rfl rfl) <| rl_v rfl rfl rfl (ov_add rfl rfl rfl (by omega)) ?_
         refine rl_v rfl rfl rfl (ov_assign rfl rfl) <| rl_nil ?_
         refine Run.use (ih112 (k + 1) (ab9) _ ?_ ?_) (And.intro (by exact slot_int rfl (by first | omega)) (And.intro rfl (And.intro rfl (And.intro rfl (And.intro rfl (And.intro rfl (And.intro rfl (And.intro rfl (And.intro rfl (And.intro rfl trivial))))))))))
         ·first | omega | (dsimp only; omega)
         ·exact ⟨by omega, hM2, hO125.tail.congrI 0 rfl (G' := fun t => iv (if t < k + 1 then X.WG i t else 0)) (fun t _ _ => congrArg iv (lt_skip ew t))⟩
       ·have ew : X.WG i k = 0 := by
         unfold HM.WG HM.othP
         rw [if_neg (by simp [e1])]
        refine rl_gskip rfl rfl rfl rfl rfl rfl <| rl_gskip rfl rfl rfl rfl rfl rfl <| rl_gskip rfl rfl rfl rfl rfl rfl <| rl_v rfl rfl rfl (ov_pick_f rfl rfl rfl) <| rl_nil <| run_cond_f rfl <| run_skip <| run_inBlock <| run_region <| rl_v rfl rfl rfl (ov_move rfl rfl) <| rl_v rfl rfl rfl (ov_add rfl rfl rfl (by omega)) ?_
        refine rl_v rfl rfl rfl (ov_assign rfl rfl) <| rl_nil ?_
        refine Run.use (ih112 (k + 1) (ab9) _ ?_ ?_) (And.intro (by exact slot_int rfl (by first | omega)) (And.intro rfl (And.intro rfl (And.intro rfl (And.intro rfl (And.intro rfl (And.intro rfl (And.intro rfl (And.intro rfl (And.intro rfl trivial))))))))))
        ·first | omega | (dsimp only; omega)
        ·exact ⟨by omega, hM2, hO125.tail.congrI 0 rfl (G' := fun t => iv (if t < k + 1 then X.WG i t else 0)) (fun t _ _ => congrArg iv (lt_skip ew t))⟩
      ·obtain rfl : k = X.mem := by omega
       have hO20 := hO19.congrI 0 rfl (G' := fun t => iv (X.WG i t)) (fun t _ t1 => by rw [if_pos t1])
       have hwg : ∀ t : Int, 0 ≤ t → t < X.mem → 0 ≤ X.WG i t ∧ X.WG i t ≤ 100000000000000000 := fun t t0 t1 => by
        have h9 := hG.cash t t0 t1
        unfold HM.WG
        split <;> omega
       have hsg : X.t3 i ≤ sm (X.WG i) X.mem := by have := t3_eq (X := X) (i := i); omega
       refine run_exit rfl <| run_seq <| run_region <| rl_v rfl rfl rfl (ov_move rfl rfl) <| rl_v rfl rfl rfl (ov_fieldS rfl Try.underlying152 rfl (fo := 2) rfl (by kernel_rfl) rfl) ?_
       refine rl_v rfl rfl rfl (ov_load rfl Try.underlying2 rfl rfl (by exact hO20.cellL 4 rfl (off := 2) rfl)) ?_
       refine rl_v rfl rfl rfl (nv (ov_sub rfl rfl rfl (by omega)) hl3.symm) ?_
       refine rl_v rfl rfl rfl (ov_assign rfl rfl) <| rl_nil <| run_seq <| run_region <| rl_v rfl rfl rfl (ov_move rfl rfl) <| rl_v rfl rfl rfl (ov_move rfl rfl) ?_
       refine rl_call callable_125 rfl rfl rfl rfl rfl rfl (gSum_any (some ⟨b20, 0, none⟩) X.mem X.mem B (X.WG i) _ w0 w111 hO20 (srcI_vch 0 rfl (by omega)) hm20 hwg) (fun e131 w132 hp133 => ?_)
       obtain ⟨rfl, hO21⟩ := hp133
       refine ⟨_, rfl, ?_⟩
       refine rl_v rfl rfl rfl (nv (ov_min rfl rfl rfl) t3_eq) <| rl_v rfl rfl rfl (ov_fieldS rfl Try.underlying152 rfl (fo := 3) rfl (by kernel_rfl) rfl) ?_
       refine rl_ow rfl (ow_storeL rfl rfl (by kernel_rfl) hO21 4 rfl rfl rfl rfl rfl) ?_
       rintro _ w134 ⟨rfl, hO135, hs136⟩
       refine rl_nil <| run_seq <| run_region <| rl_v rfl rfl rfl (ov_fieldS rfl Try.underlying152 rfl (fo := 3) rfl (by kernel_rfl) rfl) ?_
       refine rl_v rfl rfl rfl (ov_load rfl Try.underlying2 rfl rfl (by exact hO135.cellL 4 rfl (off := 3) rfl)) ?_
       refine rl_v rfl rfl rfl (ov_move rfl rfl) ?_
       refine rl_call callable_124 rfl rfl rfl rfl rfl rfl (gShare_any (X.t3 i) (some ⟨b20, 0, none⟩) X.mem X.mem B (X.WG i) _ w0 w134 hO135 (srcI_vch 0 rfl (by omega)) hm20 hwg ⟨t3.1, hsg⟩) (fun e137 w138 hp139 => ?_)
       obtain ⟨b24, o2, rfl, hsh2, hO22⟩ := hp139
       refine ⟨_, rfl, ?_⟩
       have ho2 := hsh2.rng t3.1 fun t t0 t1 => (hwg t t0 t1).1
       have hO23 : Own B w0 w138 (some (vch b24 2 X.mem (fun i => iv (o2 i))) :: some (lch b15 49 (gacL { X.tkG i 12 (i - 1) with cash := 0, fund := (X.acct i).fund - X.t0 i } (L.qa (i - 1)) X.mn (L.qc (i - 1)))) :: some (lch b14 152 [iv (X.t0 i), iv (X.t1 i), iv (X.t2 i), iv (X.t3 i), iv 0]) :: some (lch b5 152 lsz) :: some (lch b4 34 ghz) :: some (lch b2 34 (ghL { X with cap := X.cap - X.t1 i } L)) :: GL X pb ab cb qb H) := hO22.sub (.cons_cons _ (.cons _ (.cons _ (.cons _ (.refl _)))))
       have hO24 := Own.ins [some (vch b24 2 X.mem (fun i => iv (o2 i))), some (lch b15 49 (gacL { X.tkG i 12 (i - 1) with cash := 0, fund := (X.acct i).fund - X.t0 i } (L.qa (i - 1)) X.mn (L.qc (i - 1)))), some (lch b14 152 [iv (X.t0 i), iv (X.t1 i), iv (X.t2 i), iv (X.t3 i), iv 0]), some (lch b5 152 lsz), some (lch b4 34 ghz), some (lch b2 34 (ghL { X with cap := X.cap - X.t1 i } L))] hO23
       replace hO24 : Own B w0 w138 (GL X pb ab cb qb (some (vch b24 2 X.mem (fun i => iv (o2 i))) :: some (lch b15 49 (gacL { X.tkG i 12 (i - 1) with cash := 0, fund := (X.acct i).fund - X.t0 i } (L.qa (i - 1)) X.mn (L.qc (i - 1)))) :: some (lch b14 152 [iv (X.t0 i), iv (X.t1 i), iv (X.t2 i), iv (X.t3 i), iv 0]) :: some (lch b5 152 lsz) :: some (lch b4 34 ghz) :: some (lch b2 34 (ghL { X with cap := X.cap - X.t1 i } L)) :: H)) := hO24
       have hN0 : GRo R { X with ac := X.mA (X.tkG i 12) (fun j => (X.ac j).fund - o1 j) (fun j => if j < (0 : Int) then (X.ac j).cash + -(o2 j) else (X.ac j).cash) } L pb ab cb qb := GRo.acs (X := X) hLk fun t t0 t1 => mA_congr (if_pos t1) (if_neg (by omega)).symm
       refine rl_v rfl rfl rfl (ov_assign rfl rfl) <| rl_nil <| run_seq <| run_seq <| run_region <| rl_v rfl rfl rfl (ov_assign rfl rfl) <| rl_nil <| run_block <| Run.keep [1, 2, 4, 5, 14, 15, 16, 19, 23] (F' := [(1, _), (2, _), (4, _), (5, _), (14, _), (15, _), (16, _), (19, _), (23, _)]) rfl <| run_loop2 (fun (k : Int) (ab : Option Blk) => [(23, .int .i64 k)]) [1, 2, 4, 5, 14, 15, 16, 19] (fun (k : Int) (ab : Option Blk) (w140 : World) => (0 ≤ k ∧ k ≤ X.mem) ∧ GRo R { X with ac := X.mA (X.tkG i 12) (fun j => (X.ac j).fund - o1 j) (fun j => if j < k then (X.ac j).cash + -(o2 j) else (X.ac j).cash) } L pb ab cb qb ∧ Own B w0 w140 (GL X pb ab cb qb (some (vch b24 2 X.mem (fun i => iv (o2 i))) :: some (lch b15 49 (gacL { X.tkG i 12 (i - 1) with cash := 0, fund := (X.acct i).fund - X.t0 i } (L.qa (i - 1)) X.mn (L.qc (i - 1)))) :: some (lch b14 152 [iv (X.t0 i), iv (X.t1 i), iv (X.t2 i), iv (X.t3 i), iv 0]) :: some (lch b5 152 lsz) :: some (lch b4 34 ghz) :: some (lch b2 34 (ghL { X with cap := X.cap - X.t1 i } L)) :: H))) (fun (k : Int) (ab : Option Blk) => ((X.mem : Int) - k).toNat) (0) (ab) ?_ (And.intro (by exact slot_int rfl (by first | omega)) (And.intro rfl (And.intro rfl (And.intro rfl (And.intro rfl (And.intro rfl (And.intro rfl (And.intro rfl (And.intro rfl trivial))))))))) ?_
       ·exact ⟨by omega, hN0, hO24⟩
       intro k ab w140 hIw140 ih141
       obtain ⟨hk9, hLk9, hO25⟩ := hIw140
       show Run _ _ _ _ [(23, _), (1, _), (2, _), (4, _), (5, _), (14, _), (15, _), (16, _), (19, _)] _ _
       refine run_seq <| run_seq <| run_region <| rl_v rfl rfl rfl (ov_move rfl rfl) <| rl_v rfl rfl rfl (ov_move rfl rfl) <| rl_v rfl rfl rfl (ov_len rfl Try.underlying22 rfl) <| rl_v rfl rfl rfl (ov_lss rfl rfl rfl) <| rl_nil ?_
       first | refine run_cond_dec rfl (fun h6 => ?_) (fun h6 => ?_) | refine run_cond rfl (fun h6 => ?_) (fun h6 => ?_)
       ·have hok2 := ho2 k hk9.1 h6
        have hck := hG.cash k hk9.1 h6
        have hpc : ((({ X with ac := X.mA (X.tkG i 12) (fun j => (X.ac j).fund - o1 j) (fun j => if j < k then (X.ac j).cash + -(o2 j) else (X.ac j).cash), cap := X.cap - X.t1 i, hole := X.hole } : HM)).acct (k + 1)).cash = (X.ac k).cash := by
         show (if k + 1 - 1 < k then (X.ac (k + 1 - 1)).cash + -(o2 (k + 1 - 1)) else (X.ac (k + 1 - 1)).cash) = _
         rw [if_neg (by omega), show k + 1 - 1 = k by omega]
        refine run_skip <| run_seq <| run_block <| run_late (fun w' => Own B w0 w' ([some (vch b24 2 X.mem (fun i => iv (o2 i))), some (lch b2 34 (ghL { X with cap := X.cap - X.t1 i } L))])) 9 mixed ?_
        have hO143 := hO25.drew
        generalize World.drew w140 = w142 at hO143 ⊢
        have hS144 : Own B w0 w142 ([some (vch b24 2 X.mem (fun i => iv (o2 i))), some (lch b2 34 (ghL { X with cap := X.cap - X.t1 i } L))]) := by exact hO143.sub (sub_aft (.cons_cons _ (.cons _ (.cons _ (.cons _ (.cons _ (.cons_cons _ (List.nil_sublist _))))))))
        refine rhl_v 0 rfl (by kernel_rfl) rfl rfl rfl hS144 (fun _ hS => ov_loadW rfl Try.underlying34 rfl (by kernel_rfl) rfl hS 1 rfl) ?_
        refine rhl_v 1 rfl (by kernel_rfl) rfl rfl rfl hS144 (fun _ hS => ov_move rfl rfl) ?_
        refine rhl_v 2 rfl (by kernel_rfl) rfl rfl rfl hS144 (fun _ hS => ov_add rfl rfl rfl (by omega)) ?_
        refine rhl_v 3 rfl (by kernel_rfl) rfl rfl rfl hS144 (fun _ hS => ov_move rfl rfl) ?_
        refine rhl_v 4 rfl (by kernel_rfl) rfl rfl rfl hS144 (fun _ hS => ov_move rfl rfl) ?_
        refine rhl_v 5 rfl (by kernel_rfl) rfl rfl rfl hS144 (fun _ hS => ov_index1 rfl Try.underlying22 (by kernel_rfl) rfl rfl ⟨by omega, by omega⟩ (by rfl)) ?_
        refine rhl_v 6 rfl (by kernel_rfl) rfl rfl rfl hS144 (fun _ hS => ov_load rfl Try.underlying2 rfl rfl (by exact hS.cellI 0 rfl k hk9.1 h6)) ?_
        refine rhl_v 7 rfl (by kernel_rfl) rfl rfl rfl hS144 (fun _ hS => ov_neg rfl rfl (by omega)) ?_
        refine rhl_any1 8 (by kernel_rfl) ?_
        refine rcl_op rfl rfl (ow_call2 callable_117 rfl rfl rfl rfl rfl (gCash_any { X with ac := X.mA (X.tkG i 12) (fun j => (X.ac j).fund - o1 j) (fun j => if j < k then (X.ac j).cash + -(o2 j) else (X.ac j).cash), cap := X.cap - X.t1 i, hole := X.hole } L (k + 1) (-(o2 k)) R pb ab cb qb B _ w0 w142 hO143 (hLk9.capH _ _) (show 1 ≤ k + 1 ∧ k + 1 ≤ (X.mem : Int) by omega) (show X.mem ≤ 64 by omega) (by rw [hpc]; omega)) (by intro e w' hp; obtain ⟨rfl, ab8, hL8, hOd⟩ := hp; exact ⟨_, rfl⟩)) ?_
        rintro _ w147 ⟨_, v145, he148, rfl, hp146⟩
        obtain ⟨rfl, ab8, hL8, hOd⟩ := hp146
        injection he148 with he148; subst he148
        have hS149 : Own B w0 w147 ([some (vch b24 2 X.mem (fun i => iv (o2 i))), some (lch b2 34 (ghL { X with cap := X.cap - X.t1 i } L))]) := by exact hOd.sub (sub_aft (.cons_cons _ (.cons _ (.cons _ (.cons _ (.cons _ (.cons_cons _ (List.nil_sublist _))))))))
        refine ⟨hS149, ?_⟩
        refine rhl_any1 9 (by kernel_rfl) ?_
        refine rcl_last rfl rfl (ow_storeW rfl rfl (by kernel_rfl) hOd (X.mem + 5 + 3) ((get_aft3 5 rfl)) rfl (by rfl) rfl (by rfl)) ?_
        rintro _ w150 ⟨rfl, hO151, hs152⟩
        have hO26 := Own.setA3 (m := X.mem) 5 hO151
        rw [hpc] at hL8
        have hN1 : GRo R { X with ac := X.mA (X.tkG i 12) (fun j => (X.ac j).fund - o1 j) (fun j => if j < k + 1 then (X.ac j).cash + -(o2 j) else (X.ac j).cash) } L pb ab8 cb qb := GRo.acs (X := X) (f := upd (X.mA (X.tkG i 12) (fun j => (X.ac j).fund - o1 j) (fun j => if j < k then (X.ac j).cash + -(o2 j) else (X.ac j).cash)) (k + 1 - 1) { X.mA (X.tkG i 12) (fun j => (X.ac j).fund - o1 j) (fun j => if j < k then (X.ac j).cash + -(o2 j) else (X.ac j).cash) (k + 1 - 1) with cash := (X.ac k).cash + -(o2 k) }) ⟨hL8.pr, hL8.ar, hL8.cr, hL8.qr, hL8.ms, hL8.vv⟩ fun t _ _ => by rw [show k + 1 - 1 = k by omega]; exact (mA_cash t).trans (mA_congr rfl (updIf (f := fun j => (X.ac j).cash + -(o2 j)) (g := fun j => (X.ac j).cash) t))
        refine rhl_done (by kernel_rfl) ?_
        refine run_inBlock <| run_region <| rl_v rfl rfl rfl (ov_move rfl rfl) <| rl_v rfl rfl rfl (ov_add rfl rfl rfl (by omega)) ?_
        refine rl_v rfl rfl rfl (ov_assign rfl rfl) <| rl_nil ?_
        refine Run.use (ih141 (k + 1) (ab8) _ ?_ ?_) (And.intro (by exact slot_int rfl (by first | omega)) (And.intro rfl (And.intro rfl (And.intro rfl (And.intro rfl (And.intro rfl (And.intro rfl (And.intro rfl (And.intro rfl trivial)))))))))
        ·first | omega | (dsimp only; omega)
        ·exact ⟨by omega, hN1, hO26⟩
       ·obtain rfl : k = X.mem := by omega
        have hN2 : GRo R { X with ac := X.mA (X.tkG i 12) (fun j => (X.ac j).fund - o1 j) (fun j => (X.ac j).cash + -(o2 j)) } L pb ab cb qb := GRo.acs (X := X) hLk9 fun t t0 t1 => mA_congr rfl (if_pos t1)
        have hO27 := Own.outs [some (vch b24 2 X.mem (fun i => iv (o2 i))), some (lch b15 49 (gacL { X.tkG i 12 (i - 1) with cash := 0, fund := (X.acct i).fund - X.t0 i } (L.qa (i - 1)) X.mn (L.qc (i - 1)))), some (lch b14 152 [iv (X.t0 i), iv (X.t1 i), iv (X.t2 i), iv (X.t3 i), iv 0]), some (lch b5 152 lsz), some (lch b4 34 ghz), some (lch b2 34 (ghL { X with cap := X.cap - X.t1 i } L))] hO25
        replace hO27 : Own B w0 w140 (some (vch b24 2 X.mem (fun i => iv (o2 i))) :: some (lch b15 49 (gacL { X.tkG i 12 (i - 1) with cash := 0, fund := (X.acct i).fund - X.t0 i } (L.qa (i - 1)) X.mn (L.qc (i - 1)))) :: some (lch b14 152 [iv (X.t0 i), iv (X.t1 i), iv (X.t2 i), iv (X.t3 i), iv 0]) :: some (lch b5 152 lsz) :: some (lch b4 34 ghz) :: some (lch b2 34 (ghL { X with cap := X.cap - X.t1 i } L)) :: GL X pb ab cb qb H) := hO27
        refine run_exit rfl <| run_seq <| run_region <| rl_v rfl rfl rfl (ov_move rfl rfl) <| rl_v rfl rfl rfl (ov_fieldS rfl Try.underlying152 rfl (fo := 3) rfl (by kernel_rfl) rfl) ?_
        refine rl_v rfl rfl rfl (ov_load rfl Try.underlying2 rfl rfl (by exact hO27.cellL 2 rfl (off := 3) rfl)) ?_
        refine rl_v rfl rfl rfl (nv (ov_sub rfl rfl rfl (by omega)) hl4.symm) ?_
        refine rl_v rfl rfl rfl (ov_fieldS rfl Try.underlying152 rfl (fo := 4) rfl (by kernel_rfl) rfl) ?_
        refine rl_ow rfl (ow_storeL rfl rfl (by kernel_rfl) hO27 2 rfl rfl rfl rfl rfl) ?_
        rintro _ w153 ⟨rfl, hO154, hs155⟩
        refine rl_nil <| run_region <| rl_v rfl rfl rfl (ov_fieldS rfl Try.underlying34 rfl (fo := 10) rfl (by kernel_rfl) rfl) ?_
        refine rl_v rfl rfl rfl (ov_load rfl Try.underlying2 rfl rfl (by exact (show _ = some (iv X.hole) from hO154.cellL 5 rfl (off := 10) rfl))) ?_
        refine rl_v rfl rfl rfl (ov_fieldS rfl Try.underlying152 rfl (fo := 4) rfl (by kernel_rfl) rfl) ?_
        refine rl_v rfl rfl rfl (ov_load rfl Try.underlying2 rfl rfl (by exact hO154.cellL 2 rfl (off := 4) rfl)) ?_
        refine rl_v rfl rfl rfl (ov_add rfl rfl rfl (by omega)) ?_
        refine rl_v rfl rfl rfl (ov_fieldS rfl Try.underlying34 rfl (fo := 10) rfl (by kernel_rfl) rfl) ?_
        refine rl_ow rfl (ow_storeL rfl rfl (by kernel_rfl) hO154 5 rfl rfl rfl rfl rfl) ?_
        rintro _ w156 ⟨rfl, hO157, hs158⟩
        refine rl_nil <| run_seq <| run_region <| rl_v rfl rfl rfl (ov_fieldS rfl Try.underlying49 rfl (fo := 3) rfl (by kernel_rfl) rfl) ?_
        refine rl_ow rfl (ow_storeL rfl rfl (by kernel_rfl) hO157 1 rfl rfl rfl rfl rfl) ?_
        rintro _ w159 ⟨rfl, hO160, hs161⟩
        refine rl_nil <| run_seq <| run_region <| rl_v rfl rfl rfl (ov_fieldS rfl Try.underlying34 rfl (fo := 7) rfl (by kernel_rfl) rfl) ?_
        refine rl_v rfl rfl rfl (ov_load rfl Try.underlying31 rfl rfl (by exact hO160.cellL 5 rfl (off := 7) rfl)) ?_
        refine rl_v rfl rfl rfl (ov_move rfl rfl) <| rl_v rfl rfl rfl (ov_sub rfl rfl rfl (by omega)) ?_
        refine rl_v rfl rfl rfl (ov_loadW rfl Try.underlying49 rfl (by kernel_rfl) rfl hO160 1 rfl) ?_
        refine rl_v rfl rfl rfl (ov_index rfl Try.underlying31 (by kernel_rfl) (s := 4) rfl rfl ⟨by omega, show i - 1 < (X.mem : Int) by omega⟩ (by exact (id ea2))) ?_
        refine rl_ow rfl (ow_storeS rfl rfl (by kernel_rfl) hO160 hN2.ar (kk := 7) rfl (fun _ => ea2) rfl ⟨by omega, show i - 1 < (X.mem : Int) by omega⟩ rfl rfl (by kernel_rfl)) ?_
        rintro _ w162 ⟨ab7, rfl, hO163, hR7, hs164⟩
        have hN3 := GRo.setK (X := X) hN2 (k := i - 1) (a := { X.tkG i 12 (i - 1) with cash := 0, fund := (X.acct i).fund - X.t0 i, out := true }) rfl hR7 rfl
        have hN4 : GRo R { X with ac := (X.d7 i).ac, cap := (X.d7 i).cap, hole := (X.d7 i).hole } L pb ab7 cb qb := (GRo.acs (X := X) hN3 fun t t0 t1 => d7_of hT hfu0 hsh1 hsh2 t0 t1).capH _ _
        rw [← d7_eq] at hN4
        have ed : X.dflt i = X.d7 i := (if_pos ea0).trans (if_pos hl')
        have el : X.loss i = [X.t0 i, X.t1 i, X.t2 i, X.t3 i, X.l4 i] := if_pos ⟨ea0, hl'⟩
        have hO29 : Own B w0 w162 (_ :: some (lch b15 _ _) :: some (lch b14 152 [iv (X.t0 i), iv (X.t1 i), iv (X.t2 i), iv (X.t3 i), iv (X.l4 i)]) :: some (lch b5 152 lsz) :: some (lch b4 34 ghz) :: some (lch b2 34 (ghL { X with cap := X.cap - X.t1 i, hole := X.hole + X.l4 i } L)) :: GL X pb ab7 cb qb H) := hO163
        refine rl_nil <| run_seq <| run_held (fun w' => Own B w0 w' ([some (lch b14 152 [iv (X.t0 i), iv (X.t1 i), iv (X.t2 i), iv (X.t3 i), iv (X.l4 i)]), some (lch b2 34 (ghL { X with cap := X.cap - X.t1 i, hole := X.hole + X.l4 i } L))])) mixed ?_
        have hO166 := hO29.drew
        generalize World.drew w162 = w165 at hO166 ⊢
        have hS167 : Own B w0 w165 ([some (lch b14 152 [iv (X.t0 i), iv (X.t1 i), iv (X.t2 i), iv (X.t3 i), iv (X.l4 i)]), some (lch b2 34 (ghL { X with cap := X.cap - X.t1 i, hole := X.hole + X.l4 i } L))]) := by exact hO166.sub (.cons _ (.cons _ (.cons_cons _ (.cons _ (.cons _ (.cons_cons _ (List.nil_sublist _)))))))
        refine rh_v 0 rfl (by kernel_rfl) rfl rfl rfl hS167 (fun _ hS => ov_loadW rfl Try.underlying34 rfl (by kernel_rfl) rfl hS 1 rfl) ?_
        refine rh_v 1 rfl (by kernel_rfl) rfl rfl rfl hS167 (fun _ hS => ov_loadW rfl Try.underlying152 rfl (by kernel_rfl) rfl hS 0 rfl) ?_
        refine rh_any1 2 (by kernel_rfl) ?_
        refine rc_op rfl rfl (ow_storeW rfl rfl (by kernel_rfl) hO166 4 rfl rfl (by rfl) rfl (by rfl)) ?_
        rintro _ w168 ⟨rfl, hO169, hs170⟩
        have hS171 : Own B w0 w168 ([some (lch b14 152 [iv (X.t0 i), iv (X.t1 i), iv (X.t2 i), iv (X.t3 i), iv (X.l4 i)]), some (lch b2 34 (ghL { X with cap := X.cap - X.t1 i, hole := X.hole + X.l4 i } L))]) := by exact hO169.sub (.cons _ (.cons _ (.cons_cons _ (.cons _ (.cons _ (.cons_cons _ (List.nil_sublist _)))))))
        refine ⟨hS171, ?_⟩
        refine rh_any1 3 (by kernel_rfl) ?_
        refine rc_op rfl rfl (ow_storeW rfl rfl (by kernel_rfl) hO169 3 rfl rfl (by rfl) rfl (by rfl)) ?_
        rintro _ w172 ⟨rfl, hO173, hs174⟩
        have hS175 : Own B w0 w172 ([some (lch b14 152 [iv (X.t0 i), iv (X.t1 i), iv (X.t2 i), iv (X.t3 i), iv (X.l4 i)]), some (lch b2 34 (ghL { X with cap := X.cap - X.t1 i, hole := X.hole + X.l4 i } L))]) := by exact hO173.sub (.cons _ (.cons _ (.cons_cons _ (.cons _ (.cons _ (.cons_cons _ (List.nil_sublist _)))))))
        refine ⟨hS175, ?_⟩
        have hO28 : Own B w0 w172 (GL (X.d7 i) pb ab7 cb qb H) := by { have h : Own B w0 w172 (GL X pb ab7 cb qb H) := hO173.tail.tail.tail.tail.tail.tail; unfold GL at h ⊢; rw [d7_mem]; exact h }
        refine rh_v 4 rfl (by kernel_rfl) rfl rfl rfl hS175 (fun _ hS => ov_assign rfl rfl) ?_
        refine rh_done (by kernel_rfl) ?_
        refine run_ret Try.func82 (resWWV Try.results82 rfl rfl rfl Try.underlying34 rfl (by kernel_rfl) Try.underlying152 rfl (by kernel_rfl) hO173 4 3 rfl rfl) ?_
        exact ⟨.agg (ghL (X.d7 i) L).toArray, by rw [ea0, el, d7_v]; rfl, .inl ⟨ea0, L, pb, ab7, cb, qb, by rw [ed], by rw [ed]; exact hN4, by rw [ed]; exact hO28⟩⟩
    ·have ed : X.dflt i = (X.d0 i).setA i { (X.d0 i).acct i with out := true } := (if_pos ea0).trans (if_neg (by omega))
     have el : X.loss i = [0, 0, 0, 0, 0] := if_neg fun h => by omega
     refine run_skip <| run_seq <| run_region <| rl_v rfl rfl rfl (ov_fieldS rfl Try.underlying49 rfl (fo := 3) rfl (by kernel_rfl) rfl) ?_
     refine rl_ow rfl (ow_storeL rfl rfl (by kernel_rfl) hO73 0 rfl rfl rfl rfl rfl) ?_
     rintro _ w176 ⟨rfl, hO177, hs178⟩
     refine rl_nil <| run_seq <| run_region <| rl_v rfl rfl rfl (ov_fieldS rfl Try.underlying34 rfl (fo := 7) rfl (by kernel_rfl) rfl) ?_
     refine rl_v rfl rfl rfl (ov_load rfl Try.underlying31 rfl rfl (by exact hO177.cellL 4 rfl (off := 7) rfl)) ?_
     refine rl_v rfl rfl rfl (ov_move rfl rfl) <| rl_v rfl rfl rfl (ov_sub rfl rfl rfl (by omega)) ?_
     refine rl_v rfl rfl rfl (ov_loadW rfl Try.underlying49 rfl (by kernel_rfl) rfl hO177 0 rfl) ?_
     refine rl_v rfl rfl rfl (ov_index rfl Try.underlying31 (by kernel_rfl) (s := 4) rfl rfl ⟨by omega, show i - 1 < (X.mem : Int) by omega⟩ (by exact (id ea2))) ?_
     refine rl_ow rfl (ow_storeS rfl rfl (by kernel_rfl) hO177 hL0.ar (kk := 6) rfl (fun _ => ea2) rfl ⟨by omega, show i - 1 < (X.mem : Int) by omega⟩ rfl rfl (by kernel_rfl)) ?_
     rintro _ w179 ⟨ab7, rfl, hO180, hR7, hs181⟩
     have hN3 : GRo R ((X.d0 i).setA i { (X.d0 i).acct i with out := true }) L pb ab7 cb qb := GRo.setK (X := X) hL0 (k := i - 1) (a := { (X.d0 i).acct i with out := true }) rfl hR7 rfl
     refine rl_nil <| run_seq <| run_held (fun w' => Own B w0 w' ([some (lch b14 152 lsz), some (lch b2 34 (ghL X L))])) mixed ?_
     have hO183 := hO180.drew
     generalize World.drew w179 = w182 at hO183 ⊢
     have hS184 : Own B w0 w182 ([some (lch b14 152 lsz), some (lch b2 34 (ghL X L))]) := by exact hO183.sub (.cons _ (.cons_cons _ (.cons _ (.cons _ (.cons_cons _ (List.nil_sublist _))))))
     refine rh_v 0 rfl (by kernel_rfl) rfl rfl rfl hS184 (fun _ hS => ov_loadW rfl Try.underlying34 rfl (by kernel_rfl) rfl hS 1 rfl) ?_
     refine rh_v 1 rfl (by kernel_rfl) rfl rfl rfl hS184 (fun _ hS => ov_loadW rfl Try.underlying152 rfl (by kernel_rfl) rfl hS 0 rfl) ?_
     refine rh_any1 2 (by kernel_rfl) ?_
     refine rc_op rfl rfl (ow_storeW rfl rfl (by kernel_rfl) hO183 3 rfl rfl (by rfl) rfl (by rfl)) ?_
     rintro _ w185 ⟨rfl, hO186, hs187⟩
     have hS188 : Own B w0 w185 ([some (lch b14 152 lsz), some (lch b2 34 (ghL X L))]) := by exact hO186.sub (.cons _ (.cons_cons _ (.cons _ (.cons _ (.cons_cons _ (List.nil_sublist _))))))
     refine ⟨hS188, ?_⟩
     refine rh_any1 3 (by kernel_rfl) ?_
     refine rc_op rfl rfl (ow_storeW rfl rfl (by kernel_rfl) hO186 2 rfl rfl (by rfl) rfl (by rfl)) ?_
     rintro _ w189 ⟨rfl, hO190, hs191⟩
     have hS192 : Own B w0 w189 ([some (lch b14 152 lsz), some (lch b2 34 (ghL X L))]) := by exact hO190.sub (.cons _ (.cons_cons _ (.cons _ (.cons _ (.cons_cons _ (List.nil_sublist _))))))
     refine ⟨hS192, ?_⟩
     refine rh_v 4 rfl (by kernel_rfl) rfl rfl rfl hS192 (fun _ hS => ov_assign rfl rfl) ?_
     refine rh_done (by kernel_rfl) ?_
     refine run_ret Try.func82 (resWWV Try.results82 rfl rfl rfl Try.underlying34 rfl (by kernel_rfl) Try.underlying152 rfl (by kernel_rfl) hO190 3 2 rfl rfl) ?_
     exact ⟨.agg (ghL X L).toArray, by rw [ea0, el]; rfl, .inl ⟨ea0, L, pb, ab7, cb, qb, by rw [ed, d0_setV], by rw [ed]; exact hN3, by rw [ed]; exact hO190.tail.tail.tail.tail.tail⟩⟩
end Go.Proofs.Ytfbbagnpdfafjaa
