import Derived.Test.YtfbbagnpdfafjaaHcE
set_option maxRecDepth 100000
namespace Go.Proofs.Ytfbbagnpdfafjaa
open Go.RowKit Go.Proofs
theorem get_aft {qb : Nat → Option Blk} {m : Nat} {T : List (Option Blk)} (k : Nat) : ((List.range m).map qb ++ T)[m + k]? = T[k]? := by
 rw [List.getElem?_append_right (by simp)]
 simp
theorem set_aft {qb : Nat → Option Blk} {m : Nat} {T : List (Option Blk)} (k : Nat) (x : Option Blk) : ((List.range m).map qb ++ T).set (m + k) x = (List.range m).map qb ++ T.set k x := by
 rw [List.set_append_right _ _ (by simp)]
 simp
theorem get_aft3 {a b c x : Option Blk} {qb : Nat → Option Blk} {m : Nat} {T : List (Option Blk)} (k : Nat) (h : T[k]? = some x) : (a :: b :: c :: ((List.range m).map qb ++ T))[m + k + 3]? = some x := (get_aft k).trans h
theorem get_aft4 {a b c d x : Option Blk} {qb : Nat → Option Blk} {m : Nat} {T : List (Option Blk)} (k : Nat) (h : T[k]? = some x) : (a :: b :: c :: d :: ((List.range m).map qb ++ T))[m + k + 4]? = some x := (get_aft k).trans h
theorem Own.setAft {B : Nat} {w0 w : World} {a b c x : Option Blk} {qb : Nat → Option Blk} {m k : Nat} {T : List (Option Blk)} (h : Own B w0 w ((a :: b :: c :: ((List.range m).map qb ++ T)).set (m + k + 3) x)) : Own B w0 w (a :: b :: c :: ((List.range m).map qb ++ T.set k x)) := by
 have e : (a :: b :: c :: ((List.range m).map qb ++ T)).set (m + k + 3) x = a :: b :: c :: (((List.range m).map qb ++ T).set (m + k) x) := rfl
 rw [e, set_aft] at h
 exact h
theorem sub_aft {a b c : Option Blk} {qb : Nat → Option Blk} {m : Nat} {T S : List (Option Blk)} (h : S.Sublist T) : S.Sublist (a :: b :: c :: ((List.range m).map qb ++ T)) := .cons _ (.cons _ (.cons _ (h.trans (List.sublist_append_right _ _))))
theorem perm_aft {a b c x y : Option Blk} {M T : List (Option Blk)} : (a :: b :: c :: (M ++ (x :: y :: T))).Perm (y :: a :: b :: c :: (M ++ (x :: T))) := by
 have h := List.perm_middle (a := y) (l₁ := a :: b :: c :: (M ++ [x])) (l₂ := T)
 simpa [List.append_assoc] using h
theorem trade_eq (X : HM) (c : Ct) (hne : c.b ≠ c.s) :
  ((((X.setA c.b { X.acct c.b with cash := (X.acct c.b).cash + X.due c }).setA c.s { X.acct c.s with cash := (X.acct c.s).cash + -(X.due c) }).setA c.b { X.acct c.b with cash := (X.acct c.b).cash + X.due c, pos := upd (X.acct c.b).pos c.m ((X.acct c.b).pos c.m + c.q) }).setA c.s { X.acct c.s with cash := (X.acct c.s).cash + -(X.due c), pos := upd (X.acct c.s).pos c.m ((X.acct c.s).pos c.m + -c.q) }) = (X.setA c.b (X.newB c)).setA c.s (X.newS c) := by
 unfold HM.setA
 simp only [HM.mk.injEq, true_and, and_true]
 funext j
 unfold upd
 split
 ·rfl
 ·split
  ·rfl
  ·rfl
theorem HB.tradeZ {j : Nat} {X : HM} (h : HB j X) (c : Ct) (hq : c.q ≤ 100) (hP : Par X c) : HB (j + 1) ((X.setA c.b (X.newB c)).setA c.s (X.newS c)) := by
 have hPb := hP.b
 have hPs := hP.s
 have hPm := hP.m
 have hPq := hP.q
 have hPp := hP.p
 have hmo := h.mo
 have hpr := h.pr c.m hPm.1 hPm.2
 have hpb := h.pos (c.b - 1) (by omega) (by omega) c.m hPm.1 (by omega)
 have hps := h.pos (c.s - 1) (by omega) (by omega) c.m hPm.1 (by omega)
 have hcb := h.cash (c.b - 1) (by omega) (by omega)
 have hcs := h.cash (c.s - 1) (by omega) (by omega)
 have hdue := mulAbs (a := c.q) (b := X.pr c.m - c.p) (A := 100) (B := 1000000) (by omega) (by omega)
 have hdu : (X.due c).natAbs ≤ 100000000 := hdue
 exact h.two (b := c.b) (s := c.s) (m := c.m) (q := c.q) (A := X.newB c) (C := X.newS c) hPb hPs hP.ne hPm rfl rfl hP.bo hP.so (by show ((X.ac (c.b - 1)).pos c.m + c.q).natAbs ≤ _; omega) (by show ((X.ac (c.s - 1)).pos c.m - c.q).natAbs ≤ _; omega) (by show ((X.ac (c.b - 1)).cash + X.due c).natAbs ≤ _; omega) (by show ((X.ac (c.s - 1)).cash - X.due c).natAbs ≤ _; omega) rfl rfl
def ghz : List Value := [.int .i64 0, .int .i64 0, .slice none 0 0, .slice none 0 0, .int .i64 0, .int .i64 0, .slice none 0 0, .slice none 0 0, .slice none 0 0, .int .i64 0, .int .i64 0]
set_option maxHeartbeats 1000000 in
theorem gTrade_any (X : HM) (K : GK) (c : Ct) (R : List (Option Blk)) (j B : Nat) (H : List (Option Blk)) (w0 w : World) (hO : Own B w0 w H) (hK : GIn R X K) (hs : R.Sublist H) (hX : HB j X) (hj : j < 100) (hq100 : c.q ≤ 100 ∨ 1000000 < c.q) :
  Calls Try.prog 77 #[.agg (ghL X K).toArray, .agg (ctL c).toArray] w fun e w' => ∃ v, e = .returned (.tuple #[v, iv (if X.trd c = 0 then X.n + 1 else 0), iv (X.trd c)]) ∧ ((X.trd c = 0 ∧ GNew B w0 w' v (X.trade c) R H) ∨ (X.trd c ≠ 0 ∧ GSame B w0 w' v X K H)) := by
 have hg := hX.gg (by omega)
 have hmem := hX.mem
 have hmo := hX.mo
 have hnn := hX.n
 have hmn := X.mn_eq hmo.1
 obtain ⟨ab0, ao, ea, ra⟩ := hK.av.at (by decide) (hO.sub hs) (by omega)
 have dP : X.par c ≠ 0 → X.trd c = X.par c := fun h => if_pos h
 refine calls_of_run (F := [(0, _), (1, _)]) Try.func77 rfl Try.ntmps77 rfl rfl <| run_seq <| run_region <| rl_ow rfl (ow_box _ rfl rfl rfl rfl rfl hO) ?_
 rintro _ w1 ⟨b2, rfl, hO2, hs3⟩
 refine rl_ow rfl (ow_box _ rfl rfl rfl rfl rfl hO2) ?_
 rintro _ w4 ⟨b3, rfl, hO5, hs6⟩
 refine rl_ow rfl (ow_alloc _ rfl rfl rfl zero_34 rfl hO5) ?_
 rintro _ w7 ⟨b4, rfl, hO8, hs9⟩
 refine rl_v rfl rfl rfl (ov_assign rfl rfl) <| rl_v rfl rfl rfl (ov_assign rfl rfl) <| rl_nil <| run_seq <| run_seq <| run_region <| rl_v rfl rfl rfl (ov_loadW rfl Try.underlying34 rfl (by kernel_rfl) rfl hO8 2 rfl) ?_
 refine rl_v rfl rfl rfl (ov_fieldS rfl Try.underlying146 rfl (fo := 0) rfl (by kernel_rfl) rfl) ?_
 refine rl_v rfl rfl rfl (ov_load rfl Try.underlying3 rfl rfl (by exact hO8.cellL 1 rfl (off := 0) rfl)) ?_
 refine rl_v rfl rfl rfl (ov_fieldS rfl Try.underlying146 rfl (fo := 1) rfl (by kernel_rfl) rfl) ?_
 refine rl_v rfl rfl rfl (ov_load rfl Try.underlying3 rfl rfl (by exact hO8.cellL 1 rfl (off := 1) rfl)) ?_
 refine rl_v rfl rfl rfl (ov_fieldS rfl Try.underlying146 rfl (fo := 2) rfl (by kernel_rfl) rfl) ?_
 refine rl_v rfl rfl rfl (ov_load rfl Try.underlying3 rfl rfl (by exact hO8.cellL 1 rfl (off := 2) rfl)) ?_
 refine rl_v rfl rfl rfl (ov_fieldS rfl Try.underlying146 rfl (fo := 3) rfl (by kernel_rfl) rfl) ?_
 refine rl_v rfl rfl rfl (ov_load rfl Try.underlying2 rfl rfl (by exact hO8.cellL 1 rfl (off := 3) rfl)) ?_
 refine rl_call callable_120 rfl rfl rfl rfl rfl rfl (gPair_any X K c B _ w0 w7 hO8 hmo.1) (fun e10 w11 hp12 => ?_)
 obtain ⟨rfl, hO1⟩ := hp12
 refine ⟨_, rfl, ?_⟩
 refine rl_v rfl rfl rfl (ov_assign rfl rfl) <| rl_nil <| run_seq <| run_region <| rl_v rfl rfl rfl (ov_move rfl rfl) <| rl_v rfl rfl rfl (ov_neq rfl rfl rfl) <| rl_nil ?_
 first | refine run_cond_dec rfl (fun c1 => ?_) (fun c1 => ?_) | refine run_cond rfl (fun c1 => ?_) (fun c1 => ?_)
 ·have e1 : X.trd c = X.prE c := (dP (by rw [par_pr c1]; exact c1)).trans (par_pr c1)
  refine run_seq <| run_region <| rl_v rfl rfl rfl (ov_loadW rfl Try.underlying34 rfl (by kernel_rfl) rfl hO1 2 rfl) ?_
  refine rl_v rfl rfl rfl (ov_move rfl rfl) <| rl_ow rfl (ow_storeW rfl rfl (by kernel_rfl) hO1 0 rfl rfl (by rfl) rfl (by rfl)) ?_
  rintro _ w13 ⟨rfl, hO14, hs15⟩
  refine rl_v rfl rfl rfl (ov_assign rfl rfl) <| rl_v rfl rfl rfl (ov_assign rfl rfl) <| rl_nil <| run_ret Try.func77 (resW3 Try.results77 rfl rfl rfl Try.underlying34 rfl (by kernel_rfl) hO14 0 rfl) ?_
  exact ⟨_, by rw [e1, if_neg c1], .inr ⟨by rw [e1]; exact c1, rfl, hO14.tail.tail.tail⟩⟩
 ·have c0 : X.prE c = 0 := by omega
  obtain ⟨hPb, hPs, hPm, hne, hPq⟩ := prE_zero c0
  have hpr := par_rest c0
  refine run_skip <| run_seq <| run_seq <| run_region <| rl_v rfl rfl rfl (ov_fieldS rfl Try.underlying146 rfl (fo := 4) rfl (by kernel_rfl) rfl) ?_
  refine rl_v rfl rfl rfl (ov_load rfl Try.underlying2 rfl rfl (by exact hO1.cellL 1 rfl (off := 4) rfl)) ?_
  refine rl_v rfl rfl rfl (ov_lss rfl rfl rfl) <| rl_v rfl rfl rfl (ov_move rfl rfl) ?_
  first | refine rl_split_dec 28 rfl (fun p1 => ?_) (fun p1 => ?_) | refine rl_split 28 rfl (fun p1 => ?_) (fun p1 => ?_)
  ·refine rl_gskip rfl rfl rfl rfl rfl rfl <| rl_gskip rfl rfl rfl rfl rfl rfl <| rl_gskip rfl rfl rfl rfl rfl rfl <| rl_v rfl rfl rfl (ov_pick_t rfl rfl rfl) <| rl_nil <| run_cond_t rfl ?_
   have hp : X.par c = 1 := hpr.trans (if_pos fun h => by omega)
   have e1 : X.trd c = 1 := by rw [dP (by rw [hp]; decide), hp]
   refine run_seq <| run_region <| rl_v rfl rfl rfl (ov_loadW rfl Try.underlying34 rfl (by kernel_rfl) rfl hO1 2 rfl) ?_
   refine rl_ow rfl (ow_storeW rfl rfl (by kernel_rfl) hO1 0 rfl rfl (by rfl) rfl (by rfl)) ?_
   rintro _ w17 ⟨rfl, hO18, hs19⟩
   refine rl_v rfl rfl rfl (ov_assign rfl rfl) <| rl_v rfl rfl rfl (ov_assign rfl rfl) <| rl_nil <| run_ret Try.func77 (resW3 Try.results77 rfl rfl rfl Try.underlying34 rfl (by kernel_rfl) hO18 0 rfl) ?_
   exact ⟨_, by rw [e1]; rfl, .inr ⟨by rw [e1]; decide, rfl, hO18.tail.tail.tail⟩⟩
  ·refine rl_gv rfl rfl rfl rfl rfl (ov_fieldS rfl Try.underlying146 rfl (fo := 4) rfl (by kernel_rfl) rfl) ?_
   refine rl_gv rfl rfl rfl rfl rfl (ov_load rfl Try.underlying2 rfl rfl (by exact hO1.cellL 1 rfl (off := 4) rfl)) ?_
   refine rl_gv rfl rfl rfl rfl rfl (ov_gtr rfl rfl rfl) <| rl_v rfl rfl rfl (ov_pick_f rfl rfl rfl) <| rl_nil ?_
   first | refine run_cond_dec rfl (fun p2 => ?_) (fun p2 => ?_) | refine run_cond rfl (fun p2 => ?_) (fun p2 => ?_)
   ·have hp : X.par c = 1 := hpr.trans (if_pos fun h => by omega)
    have e1 : X.trd c = 1 := by rw [dP (by rw [hp]; decide), hp]
    refine run_seq <| run_region <| rl_v rfl rfl rfl (ov_loadW rfl Try.underlying34 rfl (by kernel_rfl) rfl hO1 2 rfl) ?_
    refine rl_ow rfl (ow_storeW rfl rfl (by kernel_rfl) hO1 0 rfl rfl (by rfl) rfl (by rfl)) ?_
    rintro _ w20 ⟨rfl, hO21, hs22⟩
    refine rl_v rfl rfl rfl (ov_assign rfl rfl) <| rl_v rfl rfl rfl (ov_assign rfl rfl) <| rl_nil <| run_ret Try.func77 (resW3 Try.results77 rfl rfl rfl Try.underlying34 rfl (by kernel_rfl) hO21 0 rfl) ?_
    exact ⟨_, by rw [e1]; rfl, .inr ⟨by rw [e1]; decide, rfl, hO21.tail.tail.tail⟩⟩
   ·have hpok : 1 ≤ c.p ∧ c.p ≤ 1000000 := by omega
    replace hpr : X.par c = if (X.acct c.b).out = true ∨ (X.acct c.s).out = true then 5 else 0 := hpr.trans (if_neg (fun h => h hpok))
    refine run_skip <| run_seq <| run_seq <| run_region <| rl_v rfl rfl rfl (ov_fieldS rfl Try.underlying34 rfl (fo := 7) rfl (by kernel_rfl) rfl) ?_
    refine rl_v rfl rfl rfl (ov_load rfl Try.underlying31 rfl rfl (by exact hO1.cellL 2 rfl (off := 7) rfl)) ?_
    refine rl_v rfl rfl rfl (ov_fieldS rfl Try.underlying146 rfl (fo := 0) rfl (by kernel_rfl) rfl) ?_
    refine rl_v rfl rfl rfl (ov_load rfl Try.underlying3 rfl rfl (by exact hO1.cellL 1 rfl (off := 0) rfl)) ?_
    refine rl_v rfl rfl rfl (ov_sub rfl rfl rfl (by omega)) ?_
    refine rl_v rfl rfl rfl (ov_index rfl Try.underlying31 (by kernel_rfl) (s := 4) rfl rfl ⟨by omega, by omega⟩ (by exact (id ea))) ?_
    refine rl_v rfl rfl rfl (ov_fieldS rfl Try.underlying49 rfl (fo := 3) rfl (by kernel_rfl) rfl) ?_
    refine rl_v rfl rfl rfl (ov_load rfl Try.underlying4 rfl rfl (by exact (show _ = some (.bool (X.acct c.b).out) from ra (hO1.sub (.cons _ (.cons _ (.cons _ hs)))) (c.b - 1) (by omega) (by omega) 3 (by decide)))) ?_
    refine rl_v rfl rfl rfl (ov_move rfl rfl) ?_
    first | refine rl_split_dec 42 rfl (fun o1 => ?_) (fun o1 => ?_) | refine rl_split 42 rfl (fun o1 => ?_) (fun o1 => ?_)
    ·refine rl_gskip rfl rfl rfl rfl rfl rfl <| rl_gskip rfl rfl rfl rfl rfl rfl <| rl_gskip rfl rfl rfl rfl rfl rfl <| rl_gskip rfl rfl rfl rfl rfl rfl <| rl_gskip rfl rfl rfl rfl rfl rfl <| rl_gskip rfl rfl rfl rfl rfl rfl <| rl_gskip rfl rfl rfl rfl rfl rfl <| rl_gskip rfl rfl rfl rfl rfl rfl <| rl_v rfl rfl rfl (ov_pick_t rfl rfl rfl) <| rl_nil <| run_cond_t rfl ?_
     have e5 : X.trd c = 5 := by rw [dP (by rw [hpr, if_pos (.inl o1)]; decide), hpr, if_pos (.inl o1)]
     refine run_seq <| run_region <| rl_v rfl rfl rfl (ov_loadW rfl Try.underlying34 rfl (by kernel_rfl) rfl hO1 2 rfl) ?_
     refine rl_ow rfl (ow_storeW rfl rfl (by kernel_rfl) hO1 0 rfl rfl (by rfl) rfl (by rfl)) ?_
     rintro _ w24 ⟨rfl, hO25, hs26⟩
     refine rl_v rfl rfl rfl (ov_assign rfl rfl) <| rl_v rfl rfl rfl (ov_assign rfl rfl) <| rl_nil <| run_ret Try.func77 (resW3 Try.results77 rfl rfl rfl Try.underlying34 rfl (by kernel_rfl) hO25 0 rfl) ?_
     exact ⟨_, by rw [e5]; rfl, .inr ⟨by rw [e5]; decide, rfl, hO25.tail.tail.tail⟩⟩
    ·refine rl_gv rfl rfl rfl rfl rfl (ov_fieldS rfl Try.underlying34 rfl (fo := 7) rfl (by kernel_rfl) rfl) ?_
     refine rl_gv rfl rfl rfl rfl rfl (ov_load rfl Try.underlying31 rfl rfl (by exact hO1.cellL 2 rfl (off := 7) rfl)) ?_
     refine rl_gv rfl rfl rfl rfl rfl (ov_fieldS rfl Try.underlying146 rfl (fo := 1) rfl (by kernel_rfl) rfl) ?_
     refine rl_gv rfl rfl rfl rfl rfl (ov_load rfl Try.underlying3 rfl rfl (by exact hO1.cellL 1 rfl (off := 1) rfl)) ?_
     refine rl_gv rfl rfl rfl rfl rfl (ov_sub rfl rfl rfl (by omega)) ?_
     refine rl_gv rfl rfl rfl rfl rfl (ov_index rfl Try.underlying31 (by kernel_rfl) (s := 4) rfl rfl ⟨by omega, by omega⟩ (by exact (id ea))) ?_
     refine rl_gv rfl rfl rfl rfl rfl (ov_fieldS rfl Try.underlying49 rfl (fo := 3) rfl (by kernel_rfl) rfl) ?_
     refine rl_gv rfl rfl rfl rfl rfl (ov_load rfl Try.underlying4 rfl rfl (by exact (show _ = some (.bool (X.acct c.s).out) from ra (hO1.sub (.cons _ (.cons _ (.cons _ hs)))) (c.s - 1) (by omega) (by omega) 3 (by decide)))) ?_
     refine rl_v rfl rfl rfl (ov_pick_f rfl rfl rfl) <| rl_nil ?_
     first | refine run_cond_dec rfl (fun o2 => ?_) (fun o2 => ?_) | refine run_cond rfl (fun o2 => ?_) (fun o2 => ?_)
     ·have e5 : X.trd c = 5 := by rw [dP (by rw [hpr, if_pos (.inr o2)]; decide), hpr, if_pos (.inr o2)]
      refine run_seq <| run_region <| rl_v rfl rfl rfl (ov_loadW rfl Try.underlying34 rfl (by kernel_rfl) rfl hO1 2 rfl) ?_
      refine rl_ow rfl (ow_storeW rfl rfl (by kernel_rfl) hO1 0 rfl rfl (by rfl) rfl (by rfl)) ?_
      rintro _ w27 ⟨rfl, hO28, hs29⟩
      refine rl_v rfl rfl rfl (ov_assign rfl rfl) <| rl_v rfl rfl rfl (ov_assign rfl rfl) <| rl_nil <| run_ret Try.func77 (resW3 Try.results77 rfl rfl rfl Try.underlying34 rfl (by kernel_rfl) hO28 0 rfl) ?_
      exact ⟨_, by rw [e5]; rfl, .inr ⟨by rw [e5]; decide, rfl, hO28.tail.tail.tail⟩⟩
     ·have hp0 : X.par c = 0 := by rw [hpr, if_neg (by rw [o1, o2]; decide)]
      have hP := par_zero hp0
      have hq1 : c.q ≤ 100 := by omega
      have et : X.trd c = if X.alw (X.acct c.b) (X.newB c) ∧ X.alw (X.acct c.s) (X.newS c) then 0 else 90 := if_neg (by rw [hp0]; decide)
      have hpb : ((X.acct c.b).pos c.m).natAbs ≤ 100 * j := hX.pos (c.b - 1) (by omega) (by omega) c.m hPm.1 (by omega)
      have hps : ((X.acct c.s).pos c.m).natAbs ≤ 100 * j := hX.pos (c.s - 1) (by omega) (by omega) c.m hPm.1 (by omega)
      have hcb : (X.acct c.b).cash.natAbs ≤ 10000000000000 * j := hX.cash (c.b - 1) (by omega) (by omega)
      have hcs : (X.acct c.s).cash.natAbs ≤ 10000000000000 * j := hX.cash (c.s - 1) (by omega) (by omega)
      have hprm := hX.pr c.m hPm.1 hPm.2
      have hdue := mulAbs (a := c.q) (b := X.pr c.m - c.p) (A := 100) (B := 1000000) (by omega) (by omega)
      have hdu : (X.due c).natAbs ≤ 100000000 := hdue
      refine run_skip <| run_seq <| run_region <| rl_v rfl rfl rfl (ov_loadW rfl Try.underlying34 rfl (by kernel_rfl) rfl hO1 2 rfl) ?_
      refine rl_call callable_118 rfl rfl rfl rfl rfl rfl (gFork_any X K R B _ w0 w11 hO1 hK (.cons _ (.cons _ (.cons _ hs))) hg) (fun e30 w31 hp32 => ?_)
      obtain ⟨L, pb, ab, cb, qb, rfl, hL, hO2⟩ := hp32
      refine ⟨_, rfl, ?_⟩
      refine rl_ow rfl (ow_alloc _ rfl rfl rfl zero_34 rfl hO2) ?_
      rintro _ w33 ⟨b8, rfl, hO34, hs35⟩
      refine rl_ow rfl (ow_storeW rfl rfl (by kernel_rfl) hO34 0 rfl rfl (by rfl) rfl (by rfl)) ?_
      rintro _ w36 ⟨rfl, hO37, hs38⟩
      have hO3 : Own B w0 w36 (some (lch b8 34 (ghL X L)) :: ((pb :: ab :: cb :: (List.range X.mem).map qb) ++ (some (lch b4 34 ghz) :: some (lch b3 146 (ctL c)) :: some (lch b2 34 (ghL X K)) :: H))) := hO37
      have hO4 : Own B w0 w36 (GL X pb ab cb qb (some (lch b8 34 (ghL X L)) :: some (lch b4 34 ghz) :: some (lch b3 146 (ctL c)) :: some (lch b2 34 (ghL X K)) :: H)) := hO3.perm List.perm_middle.symm
      obtain ⟨pb0, epa, rpa⟩ := hL.pr.openS hO4 0 rfl
      have epa2 := epa (by omega)
      refine rl_nil <| run_seq <| run_quiet mixed (by kernel_rfl) ?_
      refine rq_v rfl rfl rfl (fun _ => ov_fieldS rfl Try.underlying146 rfl (fo := 3) rfl (by kernel_rfl) rfl) ?_
      refine rq_v rfl rfl rfl (fun _ => ov_load rfl Try.underlying2 rfl rfl (by show World.cell? w36 _ = _; first | exact hO4.cellL (X.mem + 2 + 3) (get_aft3 2 rfl) (off := 3) rfl)) ?_
      refine rq_v rfl rfl rfl (fun _ => ov_fieldS rfl Try.underlying34 rfl (fo := 6) rfl (by kernel_rfl) rfl) ?_
      refine rq_v rfl rfl rfl (fun _ => ov_load rfl Try.underlying22 rfl rfl (by show World.cell? w36 _ = _; first | exact hO4.cellL (X.mem + 0 + 3) (get_aft3 0 rfl) (off := 6) rfl)) ?_
      refine rq_v rfl rfl rfl (fun _ => ov_fieldS rfl Try.underlying146 rfl (fo := 2) rfl (by kernel_rfl) rfl) ?_
      refine rq_v rfl rfl rfl (fun _ => ov_load rfl Try.underlying3 rfl rfl (by show World.cell? w36 _ = _; first | exact hO4.cellL (X.mem + 2 + 3) (get_aft3 2 rfl) (off := 2) rfl)) ?_
      refine rq_v rfl rfl rfl (fun _ => ov_index1 rfl Try.underlying22 (by kernel_rfl) rfl rfl ⟨by omega, by omega⟩ (by exact (id epa2))) ?_
      refine rq_v rfl rfl rfl (fun _ => ov_load rfl Try.underlying2 rfl rfl (by show World.cell? w36 _ = _; first | exact (show _ = some (iv (X.pr c.m)) from rpa c.m hPm.1 (by omega)))) ?_
      refine rq_v rfl rfl rfl (fun _ => ov_fieldS rfl Try.underlying146 rfl (fo := 4) rfl (by kernel_rfl) rfl) ?_
      refine rq_v rfl rfl rfl (fun _ => ov_load rfl Try.underlying2 rfl rfl (by show World.cell? w36 _ = _; first | exact hO4.cellL (X.mem + 2 + 3) (get_aft3 2 rfl) (off := 4) rfl)) ?_
      refine rq_v rfl rfl rfl (fun _ => ov_sub rfl rfl rfl (by omega)) ?_
      refine rq_v rfl rfl rfl (fun _ => ov_mul rfl rfl rfl (by omega)) ?_
      refine rq_v rfl rfl rfl (fun _ => ov_assign rfl rfl) ?_
      refine rq_nil (fun n39 => ?_)
      have hO41 := hO4.drewN n39
      generalize World.drewN w36 n39 = w40 at hO41 ⊢
      refine run_seq <| run_late (fun w' => Own B w0 w' ([some (lch b8 34 (ghL X L)), some (lch b3 146 (ctL c))])) 10 mixed ?_
      have hO43 := hO41.drew
      generalize World.drew w40 = w42 at hO43 ⊢
      have hS44 : Own B w0 w42 ([some (lch b8 34 (ghL X L)), some (lch b3 146 (ctL c))]) := by exact hO43.sub (sub_aft (.cons_cons _ (.cons _ (.cons_cons _ (List.nil_sublist _)))))
      refine rhl_v 0 rfl (by kernel_rfl) rfl rfl rfl hS44 (fun _ hS => ov_loadW rfl Try.underlying34 rfl (by kernel_rfl) rfl hS 0 rfl) ?_
      refine rhl_v 1 rfl (by kernel_rfl) rfl rfl rfl hS44 (fun _ hS => ov_fieldS rfl Try.underlying146 rfl (fo := 0) rfl (by kernel_rfl) rfl) ?_
      refine rhl_v 2 rfl (by kernel_rfl) rfl rfl rfl hS44 (fun _ hS => ov_load rfl Try.underlying3 rfl rfl (by exact hS.cellL 1 rfl (off := 0) rfl)) ?_
      refine rhl_v 3 rfl (by kernel_rfl) rfl rfl rfl hS44 (fun _ hS => ov_move rfl rfl) ?_
      refine rhl_v 5 rfl (by kernel_rfl) rfl rfl rfl hS44 (fun _ hS => ov_fieldS rfl Try.underlying146 rfl (fo := 1) rfl (by kernel_rfl) rfl) ?_
      refine rhl_v 6 rfl (by kernel_rfl) rfl rfl rfl hS44 (fun _ hS => ov_load rfl Try.underlying3 rfl rfl (by exact hS.cellL 1 rfl (off := 1) rfl)) ?_
      refine rhl_v 7 rfl (by kernel_rfl) rfl rfl rfl hS44 (fun _ hS => ov_move rfl rfl) ?_
      refine rhl_v 8 rfl (by kernel_rfl) rfl rfl rfl hS44 (fun _ hS => ov_neg rfl rfl (by omega)) ?_
      refine rhl_any1 4 (by kernel_rfl) ?_
      refine rcl_op rfl rfl (ow_call2 callable_117 rfl rfl rfl rfl rfl (gCash_any X L c.b (X.due c) R pb ab cb qb B _ w0 w42 hO43 hL hPb (by omega) (by omega)) (by intro e w' hp; obtain ⟨rfl, ab1, hL1, hOa⟩ := hp; exact ⟨_, rfl⟩)) ?_
      rintro _ w47 ⟨_, v45, he48, rfl, hp46⟩
      obtain ⟨rfl, ab1, hL1, hOa⟩ := hp46
      injection he48 with he48; subst he48
      have hS49 : Own B w0 w47 ([some (lch b8 34 (ghL X L)), some (lch b3 146 (ctL c))]) := by exact hOa.sub (sub_aft (.cons_cons _ (.cons _ (.cons_cons _ (List.nil_sublist _)))))
      refine ⟨hS49, ?_⟩
      have hn1 : (X.setA c.b { X.acct c.b with cash := (X.acct c.b).cash + X.due c }).acct c.s = X.acct c.s := acct_ne X hne _
      refine rhl_any1 9 (by kernel_rfl) ?_
      refine rcl_op rfl rfl (ow_call2 callable_117 rfl rfl rfl rfl rfl (gCash_any (X.setA c.b { X.acct c.b with cash := (X.acct c.b).cash + X.due c }) L c.s (-(X.due c)) R pb ab1 cb qb B _ w0 w47 hOa hL1 hPs (by show X.mem ≤ 64; omega) (by rw [hn1]; omega)) (by intro e w' hp; obtain ⟨rfl, ab2, hL2, hOb⟩ := hp; exact ⟨_, rfl⟩)) ?_
      rintro _ w52 ⟨_, v50, he53, rfl, hp51⟩
      obtain ⟨rfl, ab2, hL2, hOb⟩ := hp51
      injection he53 with he53; subst he53
      rw [hn1] at hL2
      have hS54 : Own B w0 w52 ([some (lch b8 34 (ghL X L)), some (lch b3 146 (ctL c))]) := by exact hOb.sub (sub_aft (.cons_cons _ (.cons _ (.cons_cons _ (List.nil_sublist _)))))
      refine ⟨hS54, ?_⟩
      refine rhl_any1 10 (by kernel_rfl) ?_
      refine rcl_last rfl rfl (ow_storeW rfl rfl (by kernel_rfl) hOb (X.mem + 0 + 3) ((get_aft3 0 rfl)) rfl (by rfl) rfl (by rfl)) ?_
      rintro _ w55 ⟨rfl, hO56, hs57⟩
      have hO5 := Own.setAft (m := X.mem) (k := 0) (qb := qb) (a := pb) (b := ab2) (c := cb) (T := some (lch b8 34 (ghL X L)) :: some (lch b4 34 ghz) :: some (lch b3 146 (ctL c)) :: some (lch b2 34 (ghL X K)) :: H) hO56
      replace hO5 : Own B w0 w55 (GL X pb ab2 cb qb (some (lch b8 34 (ghL X L)) :: some (lch b4 34 ghz) :: some (lch b3 146 (ctL c)) :: some (lch b2 34 (ghL X K)) :: H)) := hO5
      obtain ⟨Y2, hY2⟩ : ∃ Y2, Y2 = (X.setA c.b { X.acct c.b with cash := (X.acct c.b).cash + X.due c }).setA c.s { X.acct c.s with cash := (X.acct c.s).cash + -(X.due c) } := ⟨_, rfl⟩
      rw [← hY2] at hL2
      have hY2m : Y2.mem = X.mem ∧ Y2.mo = X.mo := by rw [hY2]; exact ⟨rfl, rfl⟩
      have hY2g : ∀ T, GL Y2 pb ab2 cb qb T = GL X pb ab2 cb qb T := fun T => by unfold GL; rw [hY2m.1]
      have hY2v : ghL Y2 L = ghL X L := by rw [hY2]; rfl
      have hY2b : Y2.acct c.b = { X.acct c.b with cash := (X.acct c.b).cash + X.due c } := by rw [hY2, acct_ne _ (fun h => hne h.symm), setA_acct]
      have hY2s : Y2.acct c.s = { X.acct c.s with cash := (X.acct c.s).cash + -(X.due c) } := by rw [hY2, setA_acct]
      rw [← hY2v] at hO5
      replace hO5 : Own B w0 w55 (GL Y2 pb ab2 cb qb (some (lch b8 34 (ghL Y2 L)) :: some (lch b4 34 ghz) :: some (lch b3 146 (ctL c)) :: some (lch b2 34 (ghL X K)) :: H)) := by rw [hY2g]; exact hO5
      refine rhl_done (by kernel_rfl) ?_
      refine run_seq <| run_late (fun w' => Own B w0 w' ([some (lch b8 34 (ghL Y2 L)), some (lch b3 146 (ctL c))])) 16 mixed ?_
      have hO59 := hO5.drew
      generalize World.drew w55 = w58 at hO59 ⊢
      have hS60 : Own B w0 w58 ([some (lch b8 34 (ghL Y2 L)), some (lch b3 146 (ctL c))]) := by exact hO59.sub (sub_aft (.cons_cons _ (.cons _ (.cons_cons _ (List.nil_sublist _)))))
      refine rhl_v 0 rfl (by kernel_rfl) rfl rfl rfl hS60 (fun _ hS => ov_loadW rfl Try.underlying34 rfl (by kernel_rfl) rfl hS 0 rfl) ?_
      refine rhl_v 1 rfl (by kernel_rfl) rfl rfl rfl hS60 (fun _ hS => ov_fieldS rfl Try.underlying146 rfl (fo := 0) rfl (by kernel_rfl) rfl) ?_
      refine rhl_v 2 rfl (by kernel_rfl) rfl rfl rfl hS60 (fun _ hS => ov_load rfl Try.underlying3 rfl rfl (by exact hS.cellL 1 rfl (off := 0) rfl)) ?_
      refine rhl_v 3 rfl (by kernel_rfl) rfl rfl rfl hS60 (fun _ hS => ov_fieldS rfl Try.underlying146 rfl (fo := 2) rfl (by kernel_rfl) rfl) ?_
      refine rhl_v 4 rfl (by kernel_rfl) rfl rfl rfl hS60 (fun _ hS => ov_load rfl Try.underlying3 rfl rfl (by exact hS.cellL 1 rfl (off := 2) rfl)) ?_
      refine rhl_v 5 rfl (by kernel_rfl) rfl rfl rfl hS60 (fun _ hS => ov_fieldS rfl Try.underlying146 rfl (fo := 3) rfl (by kernel_rfl) rfl) ?_
      refine rhl_v 6 rfl (by kernel_rfl) rfl rfl rfl hS60 (fun _ hS => ov_load rfl Try.underlying2 rfl rfl (by exact hS.cellL 1 rfl (off := 3) rfl)) ?_
      refine rhl_v 8 rfl (by kernel_rfl) rfl rfl rfl hS60 (fun _ hS => ov_fieldS rfl Try.underlying146 rfl (fo := 1) rfl (by kernel_rfl) rfl) ?_
      refine rhl_v 9 rfl (by kernel_rfl) rfl rfl rfl hS60 (fun _ hS => ov_load rfl Try.underlying3 rfl rfl (by exact hS.cellL 1 rfl (off := 1) rfl)) ?_
      refine rhl_v 10 rfl (by kernel_rfl) rfl rfl rfl hS60 (fun _ hS => ov_fieldS rfl Try.underlying146 rfl (fo := 2) rfl (by kernel_rfl) rfl) ?_
      refine rhl_v 11 rfl (by kernel_rfl) rfl rfl rfl hS60 (fun _ hS => ov_load rfl Try.underlying3 rfl rfl (by exact hS.cellL 1 rfl (off := 2) rfl)) ?_
      refine rhl_v 12 rfl (by kernel_rfl) rfl rfl rfl hS60 (fun _ hS => ov_fieldS rfl Try.underlying146 rfl (fo := 3) rfl (by kernel_rfl) rfl) ?_
      refine rhl_v 13 rfl (by kernel_rfl) rfl rfl rfl hS60 (fun _ hS => ov_load rfl Try.underlying2 rfl rfl (by exact hS.cellL 1 rfl (off := 3) rfl)) ?_
      refine rhl_v 14 rfl (by kernel_rfl) rfl rfl rfl hS60 (fun _ hS => ov_neg rfl rfl (by omega)) ?_
      refine rhl_any1 7 (by kernel_rfl) ?_
      refine rcl_op rfl rfl (ow_call2 callable_121 rfl rfl rfl rfl rfl (gHold_any Y2 L c.b c.m c.q R pb ab2 cb qb B _ w0 w58 hO59 hL2 (by rw [hY2m.1]; exact hPb) (by rw [hY2m.1]; omega) (by rw [hY2m.2]; exact hmo) (by rw [hY2m.2]; exact hPm) (by rw [hY2b]; show _ ≤ (X.acct c.b).pos c.m + c.q ∧ (X.acct c.b).pos c.m + c.q ≤ _; omega)) (by intro e w' hp; obtain ⟨rfl, qb3, hL3, hOc⟩ := hp; exact ⟨_, rfl⟩)) ?_
      rintro _ w63 ⟨_, v61, he64, rfl, hp62⟩
      obtain ⟨rfl, qb3, hL3, hOc⟩ := hp62
      injection he64 with he64; subst he64
      have hS65 : Own B w0 w63 ([some (lch b8 34 (ghL Y2 L)), some (lch b3 146 (ctL c))]) := by exact hOc.sub (sub_aft (.cons_cons _ (.cons _ (.cons_cons _ (List.nil_sublist _)))))
      refine ⟨hS65, ?_⟩
      have hn2 : (Y2.setA c.b { Y2.acct c.b with pos := upd (Y2.acct c.b).pos c.m ((Y2.acct c.b).pos c.m + c.q) }).acct c.s = Y2.acct c.s := acct_ne Y2 hne _
      refine rhl_any1 15 (by kernel_rfl) ?_
      refine rcl_op rfl rfl (ow_call2 callable_121 rfl rfl rfl rfl rfl (gHold_any (Y2.setA c.b { Y2.acct c.b with pos := upd (Y2.acct c.b).pos c.m ((Y2.acct c.b).pos c.m + c.q) }) L c.s c.m (-c.q) R pb ab2 cb qb3 B _ w0 w63 hOc hL3 (by show 1 ≤ c.s ∧ c.s ≤ (Y2.mem : Int); rw [hY2m.1]; exact hPs) (by show Y2.mem ≤ 64; rw [hY2m.1]; omega) (by show 1 ≤ Y2.mo ∧ Y2.mo ≤ 12; rw [hY2m.2]; exact hmo) (by show 0 ≤ c.m ∧ c.m < Y2.mo; rw [hY2m.2]; exact hPm) (by rw [hn2, hY2s]; show _ ≤ (X.acct c.s).pos c.m + -c.q ∧ (X.acct c.s).pos c.m + -c.q ≤ _; omega)) (by intro e w' hp; obtain ⟨rfl, qb4, hL4, hOd⟩ := hp; exact ⟨_, rfl⟩)) ?_
      rintro _ w68 ⟨_, v66, he69, rfl, hp67⟩
      obtain ⟨rfl, qb4, hL4, hOd⟩ := hp67
      injection he69 with he69; subst he69
      rw [hn2] at hL4
      have hS70 : Own B w0 w68 ([some (lch b8 34 (ghL Y2 L)), some (lch b3 146 (ctL c))]) := by exact hOd.sub (sub_aft (.cons_cons _ (.cons _ (.cons_cons _ (List.nil_sublist _)))))
      refine ⟨hS70, ?_⟩
      refine rhl_any1 16 (by kernel_rfl) ?_
      refine rcl_last rfl rfl (ow_storeW rfl rfl (by kernel_rfl) hOd (Y2.mem + 0 + 3) ((get_aft3 0 rfl)) rfl (by rfl) rfl (by rfl)) ?_
      rintro _ w71 ⟨rfl, hO72, hs73⟩
      have hO6 := Own.setAft (m := Y2.mem) (k := 0) (qb := qb4) (a := pb) (b := ab2) (c := cb) (T := some (lch b8 34 (ghL Y2 L)) :: some (lch b4 34 ghz) :: some (lch b3 146 (ctL c)) :: some (lch b2 34 (ghL X K)) :: H) hO72
      have hZ := HB.tradeZ hX c hq1 hP
      obtain ⟨Z, hZe⟩ : ∃ Z, Z = (X.setA c.b (X.newB c)).setA c.s (X.newS c) := ⟨_, rfl⟩
      rw [← hZe] at hZ
      rw [hY2b, hY2s, hY2, trade_eq X c hne, ← hZe] at hL4
      have hZm : Z.mem = X.mem := by rw [hZe]; rfl
      have hZv : ghL Z L = ghL X L := by rw [hZe]; rfl
      have hZb : Z.acct c.b = X.newB c := by rw [hZe, acct_ne _ (fun h => hne h.symm), setA_acct]
      have hZs : Z.acct c.s = X.newS c := by rw [hZe, setA_acct]
      have hZn : ∀ a, Z.need a = X.need a := fun a => by rw [hZe]; rfl
      replace hO6 : Own B w0 w71 (GL Y2 pb ab2 cb qb4 (some (lch b8 34 (ghL Y2 L)) :: some (lch b4 34 ghz) :: some (lch b3 146 (ctL c)) :: some (lch b2 34 (ghL X K)) :: H)) := hO6
      have hg2 : GL Y2 pb ab2 cb qb4 (some (lch b8 34 (ghL Z L)) :: some (lch b4 34 ghz) :: some (lch b3 146 (ctL c)) :: some (lch b2 34 (ghL X K)) :: H) = GL Z pb ab2 cb qb4 (some (lch b8 34 (ghL Z L)) :: some (lch b4 34 ghz) :: some (lch b3 146 (ctL c)) :: some (lch b2 34 (ghL X K)) :: H) := by unfold GL; rw [hY2m.1, hZm]
      rw [hY2v, ← hZv, hg2] at hO6
      have hgin := hL4.gin (H := some (lch b8 34 (ghL Z L)) :: some (lch b4 34 ghz) :: some (lch b3 146 (ctL c)) :: some (lch b2 34 (ghL X K)) :: H) (.cons _ (.cons _ (.cons _ (.cons _ hs))))
      have hab : (Z.need (Z.acct c.b) ≤ (Z.acct c.b).cash ∨ Z.need (Z.acct c.b) ≤ X.need (X.acct c.b) ∧ (X.acct c.b).cash ≤ (Z.acct c.b).cash) ↔ X.alw (X.acct c.b) (X.newB c) := by rw [hZn, hZb]; exact Iff.rfl
      have has : (Z.need (Z.acct c.s) ≤ (Z.acct c.s).cash ∨ Z.need (Z.acct c.s) ≤ X.need (X.acct c.s) ∧ (X.acct c.s).cash ≤ (Z.acct c.s).cash) ↔ X.alw (X.acct c.s) (X.newS c) := by rw [hZn, hZs]; exact Iff.rfl
      refine rhl_done (by kernel_rfl) ?_
      refine run_seq <| run_seq <| run_region <| rl_v rfl rfl rfl (ov_loadW rfl Try.underlying34 rfl (by kernel_rfl) rfl hO6 (Z.mem+3+3) ((get_aft3 3 rfl))) ?_
      refine rl_v rfl rfl rfl (ov_loadW rfl Try.underlying34 rfl (by kernel_rfl) rfl hO6 (Z.mem+0+3) ((get_aft3 0 rfl))) ?_
      refine rl_v rfl rfl rfl (ov_fieldS rfl Try.underlying146 rfl (fo := 0) rfl (by kernel_rfl) rfl) ?_
      refine rl_v rfl rfl rfl (ov_load rfl Try.underlying3 rfl rfl (by exact hO6.cellL (Z.mem + 2 + 3) (get_aft3 2 rfl) (off := 0) rfl)) ?_
      refine rl_call callable_122 rfl rfl rfl rfl rfl rfl (gAllowed_any X Z K L c.b R _ B _ w0 w71 hO6 hK (sub_aft (.cons _ (.cons _ (.cons _ (.cons _ hs))))) hg hgin (.refl _) (hZ.gg (by omega)) hPb (by rw [hZm]; exact hPb)) (fun e74 w75 hp76 => ?_)
      obtain ⟨rfl, hO7⟩ := hp76
      refine ⟨_, rfl, ?_⟩
      refine rl_v rfl rfl rfl (ov_not rfl rfl) <| rl_v rfl rfl rfl (ov_move rfl rfl) ?_
      first | refine rl_split_dec 99 rfl (fun a1 => ?_) (fun a1 => ?_) | refine rl_split 99 rfl (fun a1 => ?_) (fun a1 => ?_)
      ·refine rl_gskip rfl rfl rfl rfl rfl rfl <| rl_gskip rfl rfl rfl rfl rfl rfl <| rl_gskip rfl rfl rfl rfl rfl rfl <| rl_gskip rfl rfl rfl rfl rfl rfl <| rl_gskip rfl rfl rfl rfl rfl rfl <| rl_gskip rfl rfl rfl rfl rfl rfl <| rl_v rfl rfl rfl (ov_pick_t rfl rfl rfl) <| rl_nil <| run_cond_t rfl ?_
       have em : X.trd c = 90 := et.trans (if_neg fun h => ndt a1 (hab.2 h.1))
       have hOf := hO7.perm perm_aft
       refine run_seq <| run_region <| rl_v rfl rfl rfl (ov_loadW rfl Try.underlying34 rfl (by kernel_rfl) rfl hOf (Z.mem+2+4) ((get_aft4 2 rfl))) ?_
       refine rl_ow rfl (ow_storeW rfl rfl (by kernel_rfl) hOf 0 rfl rfl (by rfl) rfl (by rfl)) ?_
       rintro _ w78 ⟨rfl, hO79, hs80⟩
       refine rl_v rfl rfl rfl (ov_assign rfl rfl) <| rl_v rfl rfl rfl (ov_assign rfl rfl) <| rl_nil <| run_ret Try.func77 (resW3 Try.results77 rfl rfl rfl Try.underlying34 rfl (by kernel_rfl) hO79 0 rfl) ?_
       exact ⟨_, by rw [em]; rfl, .inr ⟨by rw [em]; decide, rfl, hO79.tail.sub (sub_aft (.cons _ (.cons _ (.cons _ (.refl _)))))⟩⟩
      ·refine rl_gv rfl rfl rfl rfl rfl (ov_loadW rfl Try.underlying34 rfl (by kernel_rfl) rfl hO7 (Z.mem+3+3) ((get_aft3 3 rfl))) ?_
       refine rl_gv rfl rfl rfl rfl rfl (ov_loadW rfl Try.underlying34 rfl (by kernel_rfl) rfl hO7 (Z.mem+0+3) ((get_aft3 0 rfl))) ?_
       refine rl_gv rfl rfl rfl rfl rfl (ov_fieldS rfl Try.underlying146 rfl (fo := 1) rfl (by kernel_rfl) rfl) ?_
       refine rl_gv rfl rfl rfl rfl rfl (ov_load rfl Try.underlying3 rfl rfl (by exact hO7.cellL (Z.mem + 2 + 3) (get_aft3 2 rfl) (off := 1) rfl)) ?_
       refine rl_gcall callable_122 rfl rfl rfl rfl rfl rfl rfl rfl (gAllowed_any X Z K L c.s R _ B _ w0 w75 hO7 hK (sub_aft (.cons _ (.cons _ (.cons _ (.cons _ hs))))) hg hgin (.refl _) (hZ.gg (by omega)) hPs (by rw [hZm]; exact hPs)) (fun e81 w82 hp83 => ?_)
       obtain ⟨rfl, hO8⟩ := hp83
       refine ⟨_, rfl, ?_⟩
       refine rl_gv rfl rfl rfl rfl rfl (ov_not rfl rfl) <| rl_v rfl rfl rfl (ov_pick_f rfl rfl rfl) <| rl_nil ?_
       first | refine run_cond_dec rfl (fun a2 => ?_) (fun a2 => ?_) | refine run_cond rfl (fun a2 => ?_) (fun a2 => ?_)
       ·have em : X.trd c = 90 := et.trans (if_neg fun h => ndt a2 (has.2 h.2))
        have hOf := hO8.perm perm_aft
        refine run_seq <| run_region <| rl_v rfl rfl rfl (ov_loadW rfl Try.underlying34 rfl (by kernel_rfl) rfl hOf (Z.mem+2+4) ((get_aft4 2 rfl))) ?_
        refine rl_ow rfl (ow_storeW rfl rfl (by kernel_rfl) hOf 0 rfl rfl (by rfl) rfl (by rfl)) ?_
        rintro _ w84 ⟨rfl, hO85, hs86⟩
        refine rl_v rfl rfl rfl (ov_assign rfl rfl) <| rl_v rfl rfl rfl (ov_assign rfl rfl) <| rl_nil <| run_ret Try.func77 (resW3 Try.results77 rfl rfl rfl Try.underlying34 rfl (by kernel_rfl) hO85 0 rfl) ?_
        exact ⟨_, by rw [em]; rfl, .inr ⟨by rw [em]; decide, rfl, hO85.tail.sub (sub_aft (.cons _ (.cons _ (.cons _ (.refl _)))))⟩⟩
       ·have em : X.trd c = 0 := et.trans (if_pos ⟨hab.1 (ndf a1), has.1 (ndf a2)⟩)
        have ex : X.trade c = { Z with n := X.n + 1, ct := upd X.ct X.n c } := by rw [hZe]; exact if_pos em
        have hZc : Z.n = X.n ∧ Z.ct = X.ct := by rw [hZe]; exact ⟨rfl, rfl⟩
        refine run_skip <| run_seq <| run_region <| rl_v rfl rfl rfl (ov_fieldS rfl Try.underlying34 rfl (fo := 8) rfl (by kernel_rfl) rfl) ?_
        refine rl_v rfl rfl rfl (ov_load rfl Try.underlying32 rfl rfl (by exact hO8.cellL (Z.mem + 0 + 3) (get_aft3 0 rfl) (off := 8) rfl)) ?_
        refine rl_v rfl rfl rfl (ov_assign rfl rfl) <| rl_nil <| run_seq <| run_region <| rl_v rfl rfl rfl (ov_move rfl rfl) <| rl_v rfl rfl rfl (ov_loadW rfl Try.underlying146 rfl (by kernel_rfl) rfl hO8 (Z.mem+2+3) ((get_aft3 2 rfl))) ?_
        refine rl_ow rfl (ow_build [_] rfl rfl rfl rfl rfl Try.underlying32 info_146 (by decide) hO8 rfl rfl) ?_
        rintro _ w87 ⟨b112, rfl, hO88, hs89⟩
        refine rl_ow rfl (ow_appR1 rfl rfl rfl Try.underlying32 info_146 rfl rfl hO88 2 hL4.cr rfl rfl rfl rfl rfl ⟨by omega, by omega⟩) ?_
        rintro _ w90 ⟨v113, c113, rfl, hO91, hr113, hs92⟩
        obtain ⟨a113, p113, rfl⟩ := hr113.val
        refine rl_v rfl rfl rfl (ov_assign rfl rfl) <| rl_nil <| run_seq <| run_region <| rl_v rfl rfl rfl (ov_move rfl rfl) <| rl_v rfl rfl rfl (ov_fieldS rfl Try.underlying34 rfl (fo := 8) rfl (by kernel_rfl) rfl) ?_
        refine rl_ow rfl (ow_storeL rfl rfl (by kernel_rfl) hO91 (Z.mem + 0 + 3) ((get_aft3 0 rfl)) rfl rfl rfl rfl) ?_
        rintro _ w93 ⟨rfl, hO94, hs95⟩
        obtain ⟨Z2, hZ2⟩ : ∃ Z2 : HM, Z2 = { Z with n := Z.n + 1, ct := upd Z.ct Z.n c } := ⟨_, rfl⟩
        obtain ⟨L2, hL2e⟩ : ∃ L2 : GK, L2 = { L with ca := a113, cc := p113 } := ⟨_, rfl⟩
        have hO9 := Own.setAft (m := Z.mem) (k := 0) (qb := qb4) (a := pb) (b := ab2) (c := c113) (T := some (lch b8 34 (ghL Z L)) :: some (lch b4 34 ghz) :: some (lch b3 146 (ctL c)) :: some (lch b2 34 (ghL X K)) :: H) hO94
        replace hO9 : Own B w0 w93 ((pb :: ab2 :: c113 :: (List.range Z2.mem).map qb4) ++ (some (lch b8 34 (ghL Z2 L2)) :: some (lch b4 34 ghz) :: some (lch b3 146 (ctL c)) :: some (lch b2 34 (ghL X K)) :: H)) := by rw [hZ2, hL2e]; exact hO9
        have hO10 := hO9.perm (List.perm_middle.trans (.cons _ List.perm_middle))
        have hG2 : GRo R Z2 L2 pb ab2 c113 qb4 := by
         rw [hZ2, hL2e]
         refine ⟨hL4.pr, hL4.ar, hr113.congr fun i _ _ => ?_, hL4.qr, hL4.ms, hL4.vv⟩
         show _ = ctL (upd Z.ct Z.n c i)
         unfold upd
         split <;> rfl
        have ex2 : X.trade c = Z2 := by rw [ex, hZ2, hZc.1, hZc.2]
        refine rl_nil <| run_seq <| run_region <| rl_v rfl rfl rfl (ov_loadW rfl Try.underlying34 rfl (by kernel_rfl) rfl hO10 0 rfl) ?_
        refine rl_v rfl rfl rfl (ov_move rfl rfl) <| rl_v rfl rfl rfl (ov_len rfl Try.underlying32 rfl) <| rl_ow rfl (ow_storeW rfl rfl (by kernel_rfl) hO10 1 rfl rfl (by rfl) rfl (by rfl)) ?_
        rintro _ w96 ⟨rfl, hO97, hs98⟩
        refine rl_v rfl rfl rfl (ov_assign rfl rfl) <| rl_v rfl rfl rfl (ov_assign rfl rfl) <| rl_nil <| run_ret Try.func77 (resW3 Try.results77 rfl rfl rfl Try.underlying34 rfl (by kernel_rfl) hO97 1 rfl) ?_
        exact ⟨.agg (ghL Z2 L2).toArray, by rw [em, if_pos rfl, hZc.1]; rfl, .inl ⟨em, L2, pb, ab2, c113, qb4, by rw [ex2], by rw [ex2]; exact hG2, by rw [ex2]; exact hO97.tail.tail.sub (List.Sublist.append_left (.cons _ (.cons _ (.refl H))) (pb :: ab2 :: c113 :: (List.range Z2.mem).map qb4))⟩⟩
end Go.Proofs.Ytfbbagnpdfafjaa
