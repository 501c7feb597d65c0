import Derived.Test.YtfbbagnpdfafjaaHcO
set_option maxRecDepth 100000
namespace Go.Proofs.Ytfbbagnpdfafjaa
open Go.RowKit Go.Proofs
theorem HM.dst0 (X : HM) {k a b m q p n : Int} (h : k = 0 ∨ k = 1) : X.dstep k a b m q p n = X.deposit a n := by
 unfold HM.dstep
 rw [if_pos h]
theorem HM.dst2 (X : HM) {k a b m q p n : Int} (h : k = 2) : X.dstep k a b m q p n = X.spent a n := by
 unfold HM.dstep
 rw [if_neg (by omega), if_pos h]
theorem HM.dst3 (X : HM) {k a b m q p n : Int} (h : k = 3) : X.dstep k a b m q p n = X.contrib a n := by
 unfold HM.dstep
 rw [if_neg (by omega), if_neg (by omega), if_pos h]
theorem HM.dst4 (X : HM) {k a b m q p n : Int} (h : k = 4 ∨ k = 5 ∨ k = 6 ∨ k = 7) : X.dstep k a b m q p n = X.trade ⟨a, b, m, dq q, dp p⟩ := by
 unfold HM.dstep
 rw [if_neg (by omega), if_neg (by omega), if_neg (by omega), if_pos h]
theorem HM.dst8 (X : HM) {k a b m q p n : Int} (h : k = 8) : X.dstep k a b m q p n = X.deliver ⟨a, b, m, dq q, 1⟩ := by
 unfold HM.dstep
 rw [if_neg (by omega), if_neg (by omega), if_neg (by omega), if_neg (by omega), if_pos h]
theorem HM.dst9 (X : HM) {k a b m q p n : Int} (h : k = 9 ∨ k = 10) : X.dstep k a b m q p n = X.mark m (dp p) := by
 unfold HM.dstep
 rw [if_neg (by omega), if_neg (by omega), if_neg (by omega), if_neg (by omega), if_neg (by omega), if_pos h]
theorem HM.dstD (X : HM) {k a b m q p n : Int} (h0 : 0 ≤ k) (h : 11 ≤ k) : X.dstep k a b m q p n = X.dflt a := by
 unfold HM.dstep
 rw [if_neg (by omega), if_neg (by omega), if_neg (by omega), if_neg (by omega), if_neg (by omega), if_neg (by omega)]
theorem srcNil (R : List (Option Blk)) (g : Int → Int) : SrcI R none 0 g := fun _ _ w hO => (IRow.nil 3 (fun i => iv (g i))).reads (hO.nil_cons) 0 rfl
theorem sub5 {c a b d e : Option Blk} {T R R0 : List (Option Blk)} (hs : R0.Sublist R) : (T ++ R0).Sublist (c :: ([a, b, d, e] ++ (T ++ R))) := .cons _ (.cons _ (.cons _ (.cons _ (.cons _ (List.Sublist.append_left hs T)))))
theorem mark_l (hb B : Nat) (X : HM) (Pl R : List (Option Blk)) (w0 w : World) (h : HAt B w0 w hb X Pl R) (hG : HG X) (m p : Int) : Calls Try.prog 22 #[ptr hb, iv m, iv p] w fun e w' => ∃ v c l, e = .returned (.tuple #[v, iv (X.mrk m p)]) ∧ (l = X.mkl m p ∧ IRow v 3 l.length (fun i => iv (glH l i)) c ∧ l.length ≤ 64) ∧ HAt B w0 w' hb (X.mark m p) Pl (c :: R) :=
 (mark_any hb B X m p Pl R w0 w h hG).mono fun e w' ⟨v, c, h1, h2, h3, h4⟩ => ⟨v, c, X.mkl m p, h1, ⟨rfl, h2, h3⟩, h4⟩
theorem rCallsL {hb B : Nat} {X : HM} {Pl R R0 : List (Option Blk)} {w0 w : World} (K : GK) (h : HAt B w0 w hb X Pl R) (hI : GIn R0 X K) (hs : R0.Sublist R) (hX : GG X) (l : List Int) (hl : X.cls X.mem = l) : Calls Try.prog 80 #[.agg (ghL X K).toArray] w fun e w' => ∃ c, (∃ v, e = .returned v ∧ IRow v 3 l.length (fun i => iv (glH l i)) c) ∧ HAt B w0 w' hb X Pl (c :: R) := by
 subst hl
 exact rCalls K h hI hs hX
theorem ov_eqlL5 {N : Nat} {o : Oper} {F : Fr} {w : World} {x y : Operand} {U : TypeId} {a b c d e : Int} (ho : o.op = .binOp .eql 152 x y U) (hx : Fr.ev F x = some (.agg (lossV [a, b, c, d, e]).toArray)) (hy : Fr.ev F y = some (.agg (lossV [a, b, c, d, e]).toArray)) : OpV Try.prog N o F w (.bool true) :=
 ov_eqlS ho (by unfold Program.fieldsOf; rw [Try.underlying152]) (sameL a b c d e) (by kernel_rfl) (by kernel_rfl) hx hy
theorem rDefaultL {hb B : Nat} {X : HM} {K : GK} {Pl R R0 : List (Option Blk)} {w0 w : World} {j : Nat} (h : HAt B w0 w hb X Pl R) (hI : GIn R0 X K) (hs : R0.Sublist R) (hX : HB j X) (hj : j < 100) (hm20 : X.mem < 20) (i : Int) (l : List Int) (hl : X.loss i = l) : Calls Try.prog 82 #[.agg (ghL X K).toArray, iv i] w fun e w' => ∃ T L, e = .returned (.tuple #[.agg (ghL (X.dflt i) L).toArray, .agg (lossV l).toArray, iv (X.act i)]) ∧ GIn (T ++ R0) (X.dflt i) L ∧ HAt B w0 w' hb X Pl (T ++ R) := by
 subst hl
 exact rDefault h hI hs hX hj hm20 i
theorem default_l (hb B : Nat) (X : HM) (i : Int) (Pl R : List (Option Blk)) (w0 w : World) (h : HAt B w0 w hb X Pl R) (hG : HG X) (hm20 : X.mem < 20) (hZ : HZ X) (l : List Int) (hl : X.loss i = l) : Calls Try.prog 29 #[ptr hb, iv i] w fun e w' => e = .returned (.tuple #[.agg (lossV l).toArray, iv (X.act i)]) ∧ HAt B w0 w' hb (X.dflt i) Pl R := by
 subst hl
 exact default_any hb B X i Pl R w0 w h hG hm20 hZ
set_option maxHeartbeats 4000000 in
theorem do_any (hb B : Nat) (X : HM) (K : GK) (k a b m q p n : Int) (Pl R R0 : List (Option Blk)) (w0 w : World) (j : Nat) (h : HAt B w0 w hb X Pl R) (hI : GIn R0 X K) (hs : R0.Sublist R) (hX : HB j X) (hj : j < 100) (hm20 : X.mem < 20) :
  Calls Try.prog 34 #[ptr hb, .agg (ghL X K).toArray, .agg (actL k a b m q p n).toArray] w fun e w' => ∃ T L, e = .returned (.tuple #[.agg (ghL (X.dstep (IntKind.u64.wrap k % 12) a b m q p n) L).toArray, .bool true]) ∧ GIn (T ++ R0) (X.dstep (IntKind.u64.wrap k % 12) a b m q p n) L ∧ HAt B w0 w' hb (X.dstep (IntKind.u64.wrap k % 12) a b m q p n) Pl (T ++ R) := by
 have hG := hX.hg (by omega)
 obtain ⟨K1, N1, hO, hK1, hP1⟩ := h.open
 refine calls_of_run (F := [(0, _), (1, _), (2, _)]) Try.func34 rfl Try.ntmps34 rfl rfl <| run_seq <| run_region <| rl_ow rfl (ow_box _ rfl rfl rfl rfl rfl hO) ?_
 rintro _ w1 ⟨b4, rfl, hO2, hs3⟩
 refine rl_ow rfl (ow_box _ rfl rfl rfl rfl rfl hO2) ?_
 rintro _ w4 ⟨b5, rfl, hO5, hs6⟩
 refine rl_ow rfl (ow_alloc _ rfl rfl rfl zero_34 rfl hO5) ?_
 rintro _ w7 ⟨b6, rfl, hO8, hs9⟩
 refine rl_v rfl rfl rfl (ov_assign rfl rfl) <| rl_nil <| run_seq <| run_region <| rl_v rfl rfl rfl (ov_assign rfl rfl) <| rl_v rfl rfl rfl (ov_assign rfl rfl) <| rl_nil <| run_seq <| run_seq <| run_region_join 33 (.bool (decide (100 < q ∧ q ≤ 1000000))) [0, 4, 5, 6] (fun hk10 => ?_) ?_
 ·refine rl_v rfl rfl rfl (ov_fieldS rfl Try.underlying28 rfl (fo := 4) rfl (by kernel_rfl) rfl) ?_
  refine rl_v rfl rfl rfl (ov_load rfl Try.underlying2 rfl rfl (by exact (show _ = some (iv q) from hO8.cellL 1 rfl (off := 4) rfl))) ?_
  refine rl_v rfl rfl rfl (ov_gtr rfl rfl rfl) <| rl_v rfl rfl rfl (ov_move rfl rfl) ?_
  first | refine rl_split_dec 29 rfl (fun j1 => ?_) (fun j1 => ?_) | refine rl_split 29 rfl (fun j1 => ?_) (fun j1 => ?_)
  ·refine rl_gv rfl rfl rfl rfl rfl (ov_fieldS rfl Try.underlying28 rfl (fo := 4) rfl (by kernel_rfl) rfl) ?_
   refine rl_gv rfl rfl rfl rfl rfl (ov_load rfl Try.underlying2 rfl rfl (by exact (show _ = some (iv q) from hO8.cellL 1 rfl (off := 4) rfl))) ?_
   refine rl_gv rfl rfl rfl rfl rfl (ov_leq rfl rfl rfl) <| rl_v rfl rfl rfl (ov_pick_t rfl rfl rfl) ?_
   refine rl_nil (hk10 _ (jbd rfl (by omega)) (And.intro rfl (And.intro rfl (And.intro rfl (And.intro rfl trivial)))))
  ·refine rl_gskip rfl rfl rfl rfl rfl rfl <| rl_gskip rfl rfl rfl rfl rfl rfl <| rl_gskip rfl rfl rfl rfl rfl rfl <| rl_v rfl rfl rfl (ov_pick_f rfl rfl rfl) ?_
   refine rl_nil (hk10 _ (jbf rfl (by omega)) (And.intro rfl (And.intro rfl (And.intro rfl (And.intro rfl trivial)))))
 ·show Run _ _ _ _ [(33, _), (0, _), (4, _), (5, _), (6, _)] _ _
  refine Run.keep [0, 4, 5, 6, 33] (F' := [(0, _), (4, _), (5, _), (6, _), (33, _)]) rfl <| run_join1 (fun (q2 : Int) => []) [0, 4, 5, 6] (fun (q2 : Int) (w12 : World) => q2 = dq q ∧ Own B w0 w12 (some (lch b6 34 ghz) :: some (lch b5 28 (actL k a b m q2 p n)) :: some (lch b4 34 (ghL X K)) :: houB hb (X.r K1) :: K1.blk :: (N1 ++ R))) (fun hk13 => ?_) ?_
  ·first | refine run_cond_dec rfl (fun c1 => ?_) (fun c1 => ?_) | refine run_cond rfl (fun c1 => ?_) (fun c1 => ?_)
   ·refine run_region <| rl_v rfl rfl rfl (ov_fieldS rfl Try.underlying28 rfl (fo := 4) rfl (by kernel_rfl) rfl) ?_
    refine rl_v rfl rfl rfl (ov_load rfl Try.underlying2 rfl rfl (by exact (show _ = some (iv q) from hO8.cellL 1 rfl (off := 4) rfl))) ?_
    refine rl_v rfl rfl rfl (ov_rem rfl rfl rfl (by omega) (by omega)) ?_
    refine rl_v rfl rfl rfl (ov_fieldS rfl Try.underlying28 rfl (fo := 4) rfl (by kernel_rfl) rfl) ?_
    refine rl_ow rfl (ow_storeL rfl rfl (by kernel_rfl) hO8 1 rfl rfl rfl rfl rfl) ?_
    rintro _ w14 ⟨rfl, hO15, hs16⟩
    refine rl_nil ?_
    refine Run.use (hk13 (q % 100) _ ?_) (And.intro rfl (And.intro rfl (And.intro rfl (And.intro rfl trivial))))
    exact ⟨(if_pos c1).symm, hO15⟩
   ·refine run_skip ?_
    refine Run.use (hk13 (q) _ ?_) (And.intro rfl (And.intro rfl (And.intro rfl (And.intro rfl trivial))))
    exact ⟨(if_neg c1).symm, hO8⟩
  ·intro q2 w12 hJw12
   obtain ⟨hq2, hO2⟩ := hJw12
   show Run _ _ _ _ [(0, _), (4, _), (5, _), (6, _)] _ _
   subst hq2
   refine run_seq <| run_seq <| run_region_join 45 (.bool (decide (400 < p ∧ p ≤ 1000000))) [0, 4, 5, 6] (fun hk17 => ?_) ?_
   ·refine rl_v rfl rfl rfl (ov_fieldS rfl Try.underlying28 rfl (fo := 5) rfl (by kernel_rfl) rfl) ?_
    refine rl_v rfl rfl rfl (ov_load rfl Try.underlying2 rfl rfl (by exact (show _ = some (iv p) from hO2.cellL 1 rfl (off := 5) rfl))) ?_
    refine rl_v rfl rfl rfl (ov_gtr rfl rfl rfl) <| rl_v rfl rfl rfl (ov_move rfl rfl) ?_
    first | refine rl_split_dec 41 rfl (fun j2 => ?_) (fun j2 => ?_) | refine rl_split 41 rfl (fun j2 => ?_) (fun j2 => ?_)
    ·refine rl_gv rfl rfl rfl rfl rfl (ov_fieldS rfl Try.underlying28 rfl (fo := 5) rfl (by kernel_rfl) rfl) ?_
     refine rl_gv rfl rfl rfl rfl rfl (ov_load rfl Try.underlying2 rfl rfl (by exact (show _ = some (iv p) from hO2.cellL 1 rfl (off := 5) rfl))) ?_
     refine rl_gv rfl rfl rfl rfl rfl (ov_leq rfl rfl rfl) <| rl_v rfl rfl rfl (ov_pick_t rfl rfl rfl) ?_
     refine rl_nil (hk17 _ (jbd rfl (by omega)) (And.intro rfl (And.intro rfl (And.intro rfl (And.intro rfl trivial)))))
    ·refine rl_gskip rfl rfl rfl rfl rfl rfl <| rl_gskip rfl rfl rfl rfl rfl rfl <| rl_gskip rfl rfl rfl rfl rfl rfl <| rl_v rfl rfl rfl (ov_pick_f rfl rfl rfl) ?_
     refine rl_nil (hk17 _ (jbf rfl (by omega)) (And.intro rfl (And.intro rfl (And.intro rfl (And.intro rfl trivial)))))
   ·show Run _ _ _ _ [(45, _), (0, _), (4, _), (5, _), (6, _)] _ _
    refine Run.keep [0, 4, 5, 6, 45] (F' := [(0, _), (4, _), (5, _), (6, _), (45, _)]) rfl <| run_join1 (fun (p2 : Int) => []) [0, 4, 5, 6] (fun (p2 : Int) (w19 : World) => p2 = dp p ∧ Own B w0 w19 (some (lch b6 34 ghz) :: some (lch b5 28 (actL k a b m (dq q) p2 n)) :: some (lch b4 34 (ghL X K)) :: houB hb (X.r K1) :: K1.blk :: (N1 ++ R))) (fun hk20 => ?_) ?_
    ·first | refine run_cond_dec rfl (fun c2 => ?_) (fun c2 => ?_) | refine run_cond rfl (fun c2 => ?_) (fun c2 => ?_)
     ·refine run_region <| rl_v rfl rfl rfl (ov_fieldS rfl Try.underlying28 rfl (fo := 5) rfl (by kernel_rfl) rfl) ?_
      refine rl_v rfl rfl rfl (ov_load rfl Try.underlying2 rfl rfl (by exact (show _ = some (iv p) from hO2.cellL 1 rfl (off := 5) rfl))) ?_
      refine rl_v rfl rfl rfl (ov_rem rfl rfl rfl (by omega) (by omega)) ?_
      refine rl_v rfl rfl rfl (ov_fieldS rfl Try.underlying28 rfl (fo := 5) rfl (by kernel_rfl) rfl) ?_
      refine rl_ow rfl (ow_storeL rfl rfl (by kernel_rfl) hO2 1 rfl rfl rfl rfl rfl) ?_
      rintro _ w21 ⟨rfl, hO22, hs23⟩
      refine rl_nil ?_
      refine Run.use (hk20 (p % 400) _ ?_) (And.intro rfl (And.intro rfl (And.intro rfl (And.intro rfl trivial))))
      exact ⟨(if_pos c2).symm, hO22⟩
     ·refine run_skip ?_
      refine Run.use (hk20 (p) _ ?_) (And.intro rfl (And.intro rfl (And.intro rfl (And.intro rfl trivial))))
      exact ⟨(if_neg c2).symm, hO2⟩
    ·intro p2 w19 hJw19
     obtain ⟨hp2, hO3⟩ := hJw19
     show Run _ _ _ _ [(0, _), (4, _), (5, _), (6, _)] _ _
     subst hp2
     have hA : HAt B w0 w19 hb X Pl ([some (lch b6 34 ghz), some (lch b5 28 (actL k a b m (dq q) (dp p) n)), some (lch b4 34 (ghL X K))] ++ R) := HAt.puts [some (lch b6 34 ghz), some (lch b5 28 (actL k a b m (dq q) (dp p) n)), some (lch b4 34 (ghL X K))] hO3 hK1 hP1
     have hs3 : R0.Sublist ([some (lch b6 34 ghz), some (lch b5 28 (actL k a b m (dq q) (dp p) n)), some (lch b4 34 (ghL X K))] ++ R) := .cons _ (.cons _ (.cons _ hs))
     have hx := u64_12 k
     refine run_seq <| run_seq <| run_region <| rl_v rfl rfl rfl (ov_fieldS rfl Try.underlying28 rfl (fo := 0) rfl (by kernel_rfl) rfl) ?_
     refine rl_v rfl rfl rfl (ov_load rfl Try.underlying3 rfl rfl (by exact (show _ = some (iv k) from hO3.cellL 1 rfl (off := 0) rfl))) ?_
     refine rl_v rfl rfl rfl (ov_conv rfl Try.underlying3 Try.underlying42 rfl) <| rl_v rfl rfl rfl (ov_rem rfl rfl rfl (u64_nn _) (by omega)) ?_
     refine rl_nil <| Run.keep [0, 4, 5, 6, 53] (F' := [(0, _), (4, _), (5, _), (6, _), (53, _)]) rfl <| run_join4 (fun (E : Int) (Y : HM) (T : List (Option Blk)) (L : GK) => [(8, .int .i64 E), (9, .int .i64 E)]) [4, 6] (fun (E : Int) (Y : HM) (T : List (Option Blk)) (L : GK) (w24 : World) => Y = X.dstep (IntKind.u64.wrap k % 12) a b m q p n ∧ GIn (T ++ R0) Y L ∧ HAt B w0 w24 hb Y Pl ([some (lch b6 34 ghz), some (lch b5 28 (actL k a b m (dq q) (dp p) n)), some (lch b4 34 (ghL Y L))] ++ (T ++ R))) (fun hk25 => ?_) ?_
     ·refine run_block <| run_seq <| run_seq <| run_region <| rl_v rfl rfl rfl (ov_eql rfl rfl rfl) <| rl_v rfl rfl rfl (ov_assign rfl rfl) <| rl_nil ?_
      first | refine run_cond_dec rfl (fun e0 => ?_) (fun n0 => ?_) | refine run_cond rfl (fun e0 => ?_) (fun n0 => ?_)
      ·refine run_skip ?_
       first | refine run_cond_dec rfl (fun qq => ?_) (fun qn => ?_) | refine run_cond rfl (fun qq => ?_) (fun qn => ?_)
       ·refine run_seq <| run_region <| rl_v rfl rfl rfl (ov_loadW rfl Try.underlying34 rfl (by kernel_rfl) rfl (hA.own) 2 rfl) ?_
        refine rl_v rfl rfl rfl (ov_fieldS rfl Try.underlying28 rfl (fo := 1) rfl (by kernel_rfl) rfl) ?_
        refine rl_v rfl rfl rfl (ov_load rfl Try.underlying3 rfl rfl (by exact (show _ = some (iv a) from hA.own.cellL 1 rfl (off := 1) rfl))) ?_
        refine rl_v rfl rfl rfl (ov_fieldS rfl Try.underlying28 rfl (fo := 6) rfl (by kernel_rfl) rfl) ?_
        refine rl_v rfl rfl rfl (ov_load rfl Try.underlying2 rfl rfl (by exact (show _ = some (iv n) from hA.own.cellL 1 rfl (off := 6) rfl))) ?_
        refine rl_call callable_74 rfl rfl rfl rfl rfl rfl (rDeposit hA hI hs3 hX hj a n) (fun e26 w27 hp28 => ?_)
        obtain ⟨T, L, rfl, hI2, hH2⟩ := hp28
        refine ⟨_, rfl, ?_⟩
        obtain ⟨K2, N2, hO4, hK2, hP2⟩ := HAt.pull [some (lch b6 34 ghz), some (lch b5 28 (actL k a b m (dq q) (dp p) n)), some (lch b4 34 (ghL X K))] T hH2
        refine rl_v rfl rfl rfl (ov_move rfl rfl) <| rl_v rfl rfl rfl (ov_extract rfl rfl (by rfl)) ?_
        refine rl_v rfl rfl rfl (ov_extract rfl rfl (by rfl)) ?_
        refine rl_ow rfl (ow_storeW rfl rfl (by kernel_rfl) hO4 2 rfl rfl (by rfl) rfl (by rfl)) ?_
        rintro _ w29 ⟨rfl, hO30, hs31⟩
        have hA2 : HAt B w0 w29 hb X Pl ([some (lch b6 34 ghz), some (lch b5 28 (actL k a b m (dq q) (dp p) n)), some (lch b4 34 (ghL (X.deposit a n) L))] ++ (T ++ R)) := HAt.puts [some (lch b6 34 ghz), some (lch b5 28 (actL k a b m (dq q) (dp p) n)), some (lch b4 34 (ghL (X.deposit a n) L))] hO30 hK2 hP2
        refine rl_v rfl rfl rfl (ov_assign rfl rfl) <| rl_nil <| run_region <| rl_v rfl rfl rfl (ov_move rfl rfl) <| rl_v rfl rfl rfl (ov_fieldS rfl Try.underlying28 rfl (fo := 1) rfl (by kernel_rfl) rfl) ?_
        refine rl_v rfl rfl rfl (ov_load rfl Try.underlying3 rfl rfl (by exact (show _ = some (iv a) from hA2.own.cellL 1 rfl (off := 1) rfl))) ?_
        refine rl_v rfl rfl rfl (ov_fieldS rfl Try.underlying28 rfl (fo := 6) rfl (by kernel_rfl) rfl) ?_
        refine rl_v rfl rfl rfl (ov_load rfl Try.underlying2 rfl rfl (by exact (show _ = some (iv n) from hA2.own.cellL 1 rfl (off := 6) rfl))) ?_
        refine rl_call callable_23 rfl rfl rfl rfl rfl rfl (deposit_any hb B X a n Pl _ w0 w29 hA2 hG) (fun e32 w33 hp34 => ?_)
        obtain ⟨rfl, hA3⟩ := hp34
        refine ⟨_, rfl, ?_⟩
        refine rl_v rfl rfl rfl (ov_assign rfl rfl) <| rl_nil <| run_inBlock ?_
        refine Run.use (hk25 (X.mny a n) ((X.deposit a n)) (T) (L) _ ?_) (And.intro (by exact slot_int rfl (by first | omega)) (And.intro (by exact slot_int rfl (by first | omega)) (And.intro rfl (And.intro rfl trivial))))
        exact ⟨(X.dst0 (.inl e0)).symm, hI2, hA3⟩
       ·exfalso; exact qn e0
      ·refine run_region <| rl_v rfl rfl rfl (ov_eql rfl rfl rfl) <| rl_v rfl rfl rfl (ov_assign rfl rfl) <| rl_nil ?_
       first | refine run_cond_dec rfl (fun e1 => ?_) (fun n1 => ?_) | refine run_cond rfl (fun e1 => ?_) (fun n1 => ?_)
       ·refine run_seq <| run_region <| rl_v rfl rfl rfl (ov_loadW rfl Try.underlying34 rfl (by kernel_rfl) rfl (hA.own) 2 rfl) ?_
        refine rl_v rfl rfl rfl (ov_fieldS rfl Try.underlying28 rfl (fo := 1) rfl (by kernel_rfl) rfl) ?_
        refine rl_v rfl rfl rfl (ov_load rfl Try.underlying3 rfl rfl (by exact (show _ = some (iv a) from hA.own.cellL 1 rfl (off := 1) rfl))) ?_
        refine rl_v rfl rfl rfl (ov_fieldS rfl Try.underlying28 rfl (fo := 6) rfl (by kernel_rfl) rfl) ?_
        refine rl_v rfl rfl rfl (ov_load rfl Try.underlying2 rfl rfl (by exact (show _ = some (iv n) from hA.own.cellL 1 rfl (off := 6) rfl))) ?_
        refine rl_call callable_74 rfl rfl rfl rfl rfl rfl (rDeposit hA hI hs3 hX hj a n) (fun e35 w36 hp37 => ?_)
        obtain ⟨T, L, rfl, hI2, hH2⟩ := hp37
        refine ⟨_, rfl, ?_⟩
        obtain ⟨K2, N2, hO4, hK2, hP2⟩ := HAt.pull [some (lch b6 34 ghz), some (lch b5 28 (actL k a b m (dq q) (dp p) n)), some (lch b4 34 (ghL X K))] T hH2
        refine rl_v rfl rfl rfl (ov_move rfl rfl) <| rl_v rfl rfl rfl (ov_extract rfl rfl (by rfl)) ?_
        refine rl_v rfl rfl rfl (ov_extract rfl rfl (by rfl)) ?_
        refine rl_ow rfl (ow_storeW rfl rfl (by kernel_rfl) hO4 2 rfl rfl (by rfl) rfl (by rfl)) ?_
        rintro _ w38 ⟨rfl, hO39, hs40⟩
        have hA2 : HAt B w0 w38 hb X Pl ([some (lch b6 34 ghz), some (lch b5 28 (actL k a b m (dq q) (dp p) n)), some (lch b4 34 (ghL (X.deposit a n) L))] ++ (T ++ R)) := HAt.puts [some (lch b6 34 ghz), some (lch b5 28 (actL k a b m (dq q) (dp p) n)), some (lch b4 34 (ghL (X.deposit a n) L))] hO39 hK2 hP2
        refine rl_v rfl rfl rfl (ov_assign rfl rfl) <| rl_nil <| run_region <| rl_v rfl rfl rfl (ov_move rfl rfl) <| rl_v rfl rfl rfl (ov_fieldS rfl Try.underlying28 rfl (fo := 1) rfl (by kernel_rfl) rfl) ?_
        refine rl_v rfl rfl rfl (ov_load rfl Try.underlying3 rfl rfl (by exact (show _ = some (iv a) from hA2.own.cellL 1 rfl (off := 1) rfl))) ?_
        refine rl_v rfl rfl rfl (ov_fieldS rfl Try.underlying28 rfl (fo := 6) rfl (by kernel_rfl) rfl) ?_
        refine rl_v rfl rfl rfl (ov_load rfl Try.underlying2 rfl rfl (by exact (show _ = some (iv n) from hA2.own.cellL 1 rfl (off := 6) rfl))) ?_
        refine rl_call callable_23 rfl rfl rfl rfl rfl rfl (deposit_any hb B X a n Pl _ w0 w38 hA2 hG) (fun e41 w42 hp43 => ?_)
        obtain ⟨rfl, hA3⟩ := hp43
        refine ⟨_, rfl, ?_⟩
        refine rl_v rfl rfl rfl (ov_assign rfl rfl) <| rl_nil <| run_inBlock ?_
        refine Run.use (hk25 (X.mny a n) ((X.deposit a n)) (T) (L) _ ?_) (And.intro (by exact slot_int rfl (by first | omega)) (And.intro (by exact slot_int rfl (by first | omega)) (And.intro rfl (And.intro rfl trivial))))
        exact ⟨(X.dst0 (.inr e1)).symm, hI2, hA3⟩
       ·refine run_seq <| run_region <| rl_v rfl rfl rfl (ov_eql rfl rfl rfl) <| rl_v rfl rfl rfl (ov_assign rfl rfl) <| rl_nil ?_
        first | refine run_cond_dec rfl (fun e2 => ?_) (fun n2 => ?_) | refine run_cond rfl (fun e2 => ?_) (fun n2 => ?_)
        ·refine run_seq <| run_region <| rl_v rfl rfl rfl (ov_loadW rfl Try.underlying34 rfl (by kernel_rfl) rfl (hA.own) 2 rfl) ?_
         refine rl_v rfl rfl rfl (ov_fieldS rfl Try.underlying28 rfl (fo := 1) rfl (by kernel_rfl) rfl) ?_
         refine rl_v rfl rfl rfl (ov_load rfl Try.underlying3 rfl rfl (by exact (show _ = some (iv a) from hA.own.cellL 1 rfl (off := 1) rfl))) ?_
         refine rl_v rfl rfl rfl (ov_fieldS rfl Try.underlying28 rfl (fo := 6) rfl (by kernel_rfl) rfl) ?_
         refine rl_v rfl rfl rfl (ov_load rfl Try.underlying2 rfl rfl (by exact (show _ = some (iv n) from hA.own.cellL 1 rfl (off := 6) rfl))) ?_
         refine rl_call callable_75 rfl rfl rfl rfl rfl rfl (rWithdraw hA hI hs3 hX hj a n) (fun e44 w45 hp46 => ?_)
         obtain ⟨T, L, rfl, hI2, hH2⟩ := hp46
         refine ⟨_, rfl, ?_⟩
         obtain ⟨K2, N2, hO4, hK2, hP2⟩ := HAt.pull [some (lch b6 34 ghz), some (lch b5 28 (actL k a b m (dq q) (dp p) n)), some (lch b4 34 (ghL X K))] T hH2
         refine rl_v rfl rfl rfl (ov_move rfl rfl) <| rl_v rfl rfl rfl (ov_extract rfl rfl (by rfl)) ?_
         refine rl_v rfl rfl rfl (ov_extract rfl rfl (by rfl)) ?_
         refine rl_ow rfl (ow_storeW rfl rfl (by kernel_rfl) hO4 2 rfl rfl (by rfl) rfl (by rfl)) ?_
         rintro _ w47 ⟨rfl, hO48, hs49⟩
         have hA2 : HAt B w0 w47 hb X Pl ([some (lch b6 34 ghz), some (lch b5 28 (actL k a b m (dq q) (dp p) n)), some (lch b4 34 (ghL (X.spent a n) L))] ++ (T ++ R)) := HAt.puts [some (lch b6 34 ghz), some (lch b5 28 (actL k a b m (dq q) (dp p) n)), some (lch b4 34 (ghL (X.spent a n) L))] hO48 hK2 hP2
         refine rl_v rfl rfl rfl (ov_assign rfl rfl) <| rl_nil <| run_region <| rl_v rfl rfl rfl (ov_move rfl rfl) <| rl_v rfl rfl rfl (ov_fieldS rfl Try.underlying28 rfl (fo := 1) rfl (by kernel_rfl) rfl) ?_
         refine rl_v rfl rfl rfl (ov_load rfl Try.underlying3 rfl rfl (by exact (show _ = some (iv a) from hA2.own.cellL 1 rfl (off := 1) rfl))) ?_
         refine rl_v rfl rfl rfl (ov_fieldS rfl Try.underlying28 rfl (fo := 6) rfl (by kernel_rfl) rfl) ?_
         refine rl_v rfl rfl rfl (ov_load rfl Try.underlying2 rfl rfl (by exact (show _ = some (iv n) from hA2.own.cellL 1 rfl (off := 6) rfl))) ?_
         refine rl_call callable_26 rfl rfl rfl rfl rfl rfl (withdraw_any hb B X a n Pl _ w0 w47 hA2 hG) (fun e50 w51 hp52 => ?_)
         obtain ⟨rfl, hA3⟩ := hp52
         refine ⟨_, rfl, ?_⟩
         refine rl_v rfl rfl rfl (ov_assign rfl rfl) <| rl_nil <| run_inBlock ?_
         refine Run.use (hk25 (X.spd a n) ((X.spent a n)) (T) (L) _ ?_) (And.intro (by exact slot_int rfl (by first | omega)) (And.intro (by exact slot_int rfl (by first | omega)) (And.intro rfl (And.intro rfl trivial))))
         exact ⟨(X.dst2 e2).symm, hI2, hA3⟩
        ·refine run_seq <| run_region <| rl_v rfl rfl rfl (ov_eql rfl rfl rfl) <| rl_v rfl rfl rfl (ov_assign rfl rfl) <| rl_nil ?_
         first | refine run_cond_dec rfl (fun e3 => ?_) (fun n3 => ?_) | refine run_cond rfl (fun e3 => ?_) (fun n3 => ?_)
         ·refine run_seq <| run_region <| rl_v rfl rfl rfl (ov_loadW rfl Try.underlying34 rfl (by kernel_rfl) rfl (hA.own) 2 rfl) ?_
          refine rl_v rfl rfl rfl (ov_fieldS rfl Try.underlying28 rfl (fo := 1) rfl (by kernel_rfl) rfl) ?_
          refine rl_v rfl rfl rfl (ov_load rfl Try.underlying3 rfl rfl (by exact (show _ = some (iv a) from hA.own.cellL 1 rfl (off := 1) rfl))) ?_
          refine rl_v rfl rfl rfl (ov_fieldS rfl Try.underlying28 rfl (fo := 6) rfl (by kernel_rfl) rfl) ?_
          refine rl_v rfl rfl rfl (ov_load rfl Try.underlying2 rfl rfl (by exact (show _ = some (iv n) from hA.own.cellL 1 rfl (off := 6) rfl))) ?_
          refine rl_call callable_76 rfl rfl rfl rfl rfl rfl (rContribute hA hI hs3 hX hj a n) (fun e53 w54 hp55 => ?_)
          obtain ⟨T, L, rfl, hI2, hH2⟩ := hp55
          refine ⟨_, rfl, ?_⟩
          obtain ⟨K2, N2, hO4, hK2, hP2⟩ := HAt.pull [some (lch b6 34 ghz), some (lch b5 28 (actL k a b m (dq q) (dp p) n)), some (lch b4 34 (ghL X K))] T hH2
          refine rl_v rfl rfl rfl (ov_move rfl rfl) <| rl_v rfl rfl rfl (ov_extract rfl rfl (by rfl)) ?_
          refine rl_v rfl rfl rfl (ov_extract rfl rfl (by rfl)) ?_
          refine rl_ow rfl (ow_storeW rfl rfl (by kernel_rfl) hO4 2 rfl rfl (by rfl) rfl (by rfl)) ?_
          rintro _ w56 ⟨rfl, hO57, hs58⟩
          have hA2 : HAt B w0 w56 hb X Pl ([some (lch b6 34 ghz), some (lch b5 28 (actL k a b m (dq q) (dp p) n)), some (lch b4 34 (ghL (X.contrib a n) L))] ++ (T ++ R)) := HAt.puts [some (lch b6 34 ghz), some (lch b5 28 (actL k a b m (dq q) (dp p) n)), some (lch b4 34 (ghL (X.contrib a n) L))] hO57 hK2 hP2
          refine rl_v rfl rfl rfl (ov_assign rfl rfl) <| rl_nil <| run_region <| rl_v rfl rfl rfl (ov_move rfl rfl) <| rl_v rfl rfl rfl (ov_fieldS rfl Try.underlying28 rfl (fo := 1) rfl (by kernel_rfl) rfl) ?_
          refine rl_v rfl rfl rfl (ov_load rfl Try.underlying3 rfl rfl (by exact (show _ = some (iv a) from hA2.own.cellL 1 rfl (off := 1) rfl))) ?_
          refine rl_v rfl rfl rfl (ov_fieldS rfl Try.underlying28 rfl (fo := 6) rfl (by kernel_rfl) rfl) ?_
          refine rl_v rfl rfl rfl (ov_load rfl Try.underlying2 rfl rfl (by exact (show _ = some (iv n) from hA2.own.cellL 1 rfl (off := 6) rfl))) ?_
          refine rl_call callable_27 rfl rfl rfl rfl rfl rfl (contribute_any hb B X a n Pl _ w0 w56 hA2 hG) (fun e59 w60 hp61 => ?_)
          obtain ⟨rfl, hA3⟩ := hp61
          refine ⟨_, rfl, ?_⟩
          refine rl_v rfl rfl rfl (ov_assign rfl rfl) <| rl_nil <| run_inBlock ?_
          refine Run.use (hk25 (X.spd a n) ((X.contrib a n)) (T) (L) _ ?_) (And.intro (by exact slot_int rfl (by first | omega)) (And.intro (by exact slot_int rfl (by first | omega)) (And.intro rfl (And.intro rfl trivial))))
          exact ⟨(X.dst3 e3).symm, hI2, hA3⟩
         ·refine run_seq <| run_seq <| run_region <| rl_v rfl rfl rfl (ov_eql rfl rfl rfl) <| rl_v rfl rfl rfl (ov_assign rfl rfl) <| rl_nil ?_
          first | refine run_cond_dec rfl (fun e4 => ?_) (fun n4 => ?_) | refine run_cond rfl (fun e4 => ?_) (fun n4 => ?_)
          ·refine run_skip ?_
           first | refine run_cond_dec rfl (fun qq => ?_) (fun qn => ?_) | refine run_cond rfl (fun qq => ?_) (fun qn => ?_)
           ·obtain ⟨K2, N2, hO4, hK2, hP2⟩ := HAt.pull [some (lch b6 34 ghz), some (lch b5 28 (actL k a b m (dq q) (dp p) n)), some (lch b4 34 (ghL X K))] [] hA
            refine run_seq <| run_region <| rl_v rfl rfl rfl (ov_fieldS rfl Try.underlying28 rfl (fo := 1) rfl (by kernel_rfl) rfl) ?_
            refine rl_v rfl rfl rfl (ov_load rfl Try.underlying3 rfl rfl (by exact (show _ = some (iv a) from hA.own.cellL 1 rfl (off := 1) rfl))) ?_
            refine rl_v rfl rfl rfl (ov_fieldS rfl Try.underlying28 rfl (fo := 2) rfl (by kernel_rfl) rfl) ?_
            refine rl_v rfl rfl rfl (ov_load rfl Try.underlying3 rfl rfl (by exact (show _ = some (iv b) from hA.own.cellL 1 rfl (off := 2) rfl))) ?_
            refine rl_v rfl rfl rfl (ov_fieldS rfl Try.underlying28 rfl (fo := 3) rfl (by kernel_rfl) rfl) ?_
            refine rl_v rfl rfl rfl (ov_load rfl Try.underlying3 rfl rfl (by exact (show _ = some (iv m) from hA.own.cellL 1 rfl (off := 3) rfl))) ?_
            refine rl_v rfl rfl rfl (ov_fieldS rfl Try.underlying28 rfl (fo := 4) rfl (by kernel_rfl) rfl) ?_
            refine rl_v rfl rfl rfl (ov_load rfl Try.underlying2 rfl rfl (by exact (show _ = some (iv (dq q)) from hA.own.cellL 1 rfl (off := 4) rfl))) ?_
            refine rl_v rfl rfl rfl (ov_fieldS rfl Try.underlying28 rfl (fo := 5) rfl (by kernel_rfl) rfl) ?_
            refine rl_v rfl rfl rfl (ov_load rfl Try.underlying2 rfl rfl (by exact (show _ = some (iv (dp p)) from hA.own.cellL 1 rfl (off := 5) rfl))) ?_
            refine rl_v rfl rfl rfl (ov_buildL rfl lay_146 rfl (us := [_, _, _, _, _]) rfl) <| rl_ow rfl (ow_alloc _ rfl rfl rfl zero_146 rfl hO4) ?_
            rintro _ w62 ⟨b10, rfl, hO63, hs64⟩
            refine rl_ow rfl (ow_storeW rfl rfl (by kernel_rfl) hO63 0 rfl rfl (by rfl) rfl (by rfl)) ?_
            rintro _ w65 ⟨rfl, hO66, hs67⟩
            have hA2 : HAt B w0 w65 hb X Pl ([some (lch b10 146 (ctL ⟨a, b, m, dq q, dp p⟩)), some (lch b6 34 ghz), some (lch b5 28 (actL k a b m (dq q) (dp p) n)), some (lch b4 34 (ghL X K))] ++ R) := HAt.puts [some (lch b10 146 (ctL ⟨a, b, m, dq q, dp p⟩)), some (lch b6 34 ghz), some (lch b5 28 (actL k a b m (dq q) (dp p) n)), some (lch b4 34 (ghL X K))] hO66 hK2 hP2
            refine rl_nil <| run_seq <| run_region <| rl_v rfl rfl rfl (ov_loadW rfl Try.underlying34 rfl (by kernel_rfl) rfl (hA2.own) 3 rfl) ?_
            refine rl_v rfl rfl rfl (ov_loadW rfl Try.underlying146 rfl (by kernel_rfl) rfl (hA2.own) 0 rfl) ?_
            refine rl_call callable_77 rfl rfl rfl rfl rfl rfl (rTrade hA2 hI (.cons _ hs3) hX hj ⟨a, b, m, dq q, dp p⟩ (dq_rng q)) (fun e68 w69 hp70 => ?_)
            obtain ⟨T, L, rfl, hI2, hH2⟩ := hp70
            refine ⟨_, rfl, ?_⟩
            obtain ⟨K3, N3, hO5, hK3, hP3⟩ := HAt.pull [some (lch b10 146 (ctL ⟨a, b, m, dq q, dp p⟩)), some (lch b6 34 ghz), some (lch b5 28 (actL k a b m (dq q) (dp p) n)), some (lch b4 34 (ghL X K))] T hH2
            refine rl_v rfl rfl rfl (ov_move rfl rfl) <| rl_v rfl rfl rfl (ov_extract rfl rfl (by rfl)) ?_
            refine rl_v rfl rfl rfl (ov_extract rfl rfl (by rfl)) ?_
            refine rl_v rfl rfl rfl (ov_extract rfl rfl (by rfl)) ?_
            refine rl_ow rfl (ow_alloc _ rfl rfl rfl zero_34 rfl hO5) ?_
            rintro _ w71 ⟨b11, rfl, hO72, hs73⟩
            refine rl_ow rfl (ow_storeW rfl rfl (by kernel_rfl) hO72 0 rfl rfl (by rfl) rfl (by rfl)) ?_
            rintro _ w74 ⟨rfl, hO75, hs76⟩
            have hA3 : HAt B w0 w74 hb X Pl ([some (lch b11 34 (ghL (X.trade ⟨a, b, m, dq q, dp p⟩) L)), some (lch b10 146 (ctL ⟨a, b, m, dq q, dp p⟩)), some (lch b6 34 ghz), some (lch b5 28 (actL k a b m (dq q) (dp p) n)), some (lch b4 34 (ghL X K))] ++ (T ++ R)) := HAt.puts [some (lch b11 34 (ghL (X.trade ⟨a, b, m, dq q, dp p⟩) L)), some (lch b10 146 (ctL ⟨a, b, m, dq q, dp p⟩)), some (lch b6 34 ghz), some (lch b5 28 (actL k a b m (dq q) (dp p) n)), some (lch b4 34 (ghL X K))] hO75 hK3 hP3
            refine rl_v rfl rfl rfl (ov_assign rfl rfl) <| rl_v rfl rfl rfl (ov_assign rfl rfl) <| rl_nil <| run_seq <| run_region <| rl_v rfl rfl rfl (ov_move rfl rfl) <| rl_v rfl rfl rfl (ov_loadW rfl Try.underlying146 rfl (by kernel_rfl) rfl (hA3.own) 1 rfl) ?_
            refine rl_call callable_25 rfl rfl rfl rfl rfl rfl (trade_any hb B X ⟨a, b, m, dq q, dp p⟩ Pl _ w0 w74 hA3 hG) (fun e77 w78 hp79 => ?_)
            obtain ⟨rfl, hA4⟩ := hp79
            refine ⟨_, rfl, ?_⟩
            obtain ⟨K4, N4, hO6, hK4, hP4⟩ := HAt.pull [some (lch b11 34 (ghL (X.trade ⟨a, b, m, dq q, dp p⟩) L)), some (lch b10 146 (ctL ⟨a, b, m, dq q, dp p⟩)), some (lch b6 34 ghz), some (lch b5 28 (actL k a b m (dq q) (dp p) n)), some (lch b4 34 (ghL X K))] [] hA4
            refine rl_v rfl rfl rfl (ov_move rfl rfl) <| rl_v rfl rfl rfl (ov_extract rfl rfl (by rfl)) ?_
            refine rl_v rfl rfl rfl (ov_extract rfl rfl (by rfl)) ?_
            refine rl_v rfl rfl rfl (ov_assign rfl rfl) <| rl_v rfl rfl rfl (ov_assign rfl rfl) <| rl_nil <| run_seq <| run_region <| rl_v rfl rfl rfl (ov_loadW rfl Try.underlying34 rfl (by kernel_rfl) rfl hO6 0 rfl) ?_
            refine rl_v rfl rfl rfl (ov_move rfl rfl) <| rl_v rfl rfl rfl (ov_move rfl rfl) <| rl_v rfl rfl rfl (ov_eql rfl rfl rfl) <| rl_v rfl rfl rfl (ov_move rfl rfl) ?_
            first | refine rl_yesD 163 rfl (rfl) ?_ | refine rl_yes 163 rfl (rfl) ?_
            refine rl_gv rfl rfl rfl rfl rfl (ov_move rfl rfl) <| rl_gv rfl rfl rfl rfl rfl (ov_move rfl rfl) <| rl_gv rfl rfl rfl rfl rfl (ov_eql rfl rfl rfl) <| rl_v rfl rfl rfl (ov_pick_t rfl rfl rfl) <| rl_ow rfl (ow_storeW rfl rfl (by kernel_rfl) hO6 2 rfl rfl (by rfl) rfl (by rfl)) ?_
            rintro _ w80 ⟨rfl, hO81, hs82⟩
            have hd := X.dst4 (a := a) (b := b) (m := m) (q := q) (p := p) (n := n) (.inl e4)
            refine rl_v rfl rfl rfl (ov_assign rfl rfl) <| rl_nil <| run_ret Try.func34 (resW2 Try.results34 rfl rfl Try.underlying34 rfl (by kernel_rfl) hO81 2 rfl) ?_
            exact ⟨T, L, by rw [hd]; simp, by rw [hd]; exact hI2, by rw [hd]; exact (HAt.puts [some (lch b11 34 (ghL (X.trade ⟨a, b, m, dq q, dp p⟩) L)), some (lch b10 146 (ctL ⟨a, b, m, dq q, dp p⟩)), some (lch b6 34 (ghL (X.trade ⟨a, b, m, dq q, dp p⟩) L)), some (lch b5 28 (actL k a b m (dq q) (dp p) n)), some (lch b4 34 (ghL X K))] hO81 hK4 hP4).sheds (List.sublist_append_right _ _)⟩
           ·exfalso; exact qn e4
          ·refine run_seq <| run_region <| rl_v rfl rfl rfl (ov_eql rfl rfl rfl) <| rl_v rfl rfl rfl (ov_assign rfl rfl) <| rl_nil ?_
           first | refine run_cond_dec rfl (fun e5 => ?_) (fun n5 => ?_) | refine run_cond rfl (fun e5 => ?_) (fun n5 => ?_)
           ·refine run_skip ?_
            first | refine run_cond_dec rfl (fun qq => ?_) (fun qn => ?_) | refine run_cond rfl (fun qq => ?_) (fun qn => ?_)
            ·obtain ⟨K2, N2, hO4, hK2, hP2⟩ := HAt.pull [some (lch b6 34 ghz), some (lch b5 28 (actL k a b m (dq q) (dp p) n)), some (lch b4 34 (ghL X K))] [] hA
             refine run_seq <| run_region <| rl_v rfl rfl rfl (ov_fieldS rfl Try.underlying28 rfl (fo := 1) rfl (by kernel_rfl) rfl) ?_
             refine rl_v rfl rfl rfl (ov_load rfl Try.underlying3 rfl rfl (by exact (show _ = some (iv a) from hA.own.cellL 1 rfl (off := 1) rfl))) ?_
             refine rl_v rfl rfl rfl (ov_fieldS rfl Try.underlying28 rfl (fo := 2) rfl (by kernel_rfl) rfl) ?_
             refine rl_v rfl rfl rfl (ov_load rfl Try.underlying3 rfl rfl (by exact (show _ = some (iv b) from hA.own.cellL 1 rfl (off := 2) rfl))) ?_
             refine rl_v rfl rfl rfl (ov_fieldS rfl Try.underlying28 rfl (fo := 3) rfl (by kernel_rfl) rfl) ?_
             refine rl_v rfl rfl rfl (ov_load rfl Try.underlying3 rfl rfl (by exact (show _ = some (iv m) from hA.own.cellL 1 rfl (off := 3) rfl))) ?_
             refine rl_v rfl rfl rfl (ov_fieldS rfl Try.underlying28 rfl (fo := 4) rfl (by kernel_rfl) rfl) ?_
             refine rl_v rfl rfl rfl (ov_load rfl Try.underlying2 rfl rfl (by exact (show _ = some (iv (dq q)) from hA.own.cellL 1 rfl (off := 4) rfl))) ?_
             refine rl_v rfl rfl rfl (ov_fieldS rfl Try.underlying28 rfl (fo := 5) rfl (by kernel_rfl) rfl) ?_
             refine rl_v rfl rfl rfl (ov_load rfl Try.underlying2 rfl rfl (by exact (show _ = some (iv (dp p)) from hA.own.cellL 1 rfl (off := 5) rfl))) ?_
             refine rl_v rfl rfl rfl (ov_buildL rfl lay_146 rfl (us := [_, _, _, _, _]) rfl) <| rl_ow rfl (ow_alloc _ rfl rfl rfl zero_146 rfl hO4) ?_
             rintro _ w83 ⟨b10, rfl, hO84, hs85⟩
             refine rl_ow rfl (ow_storeW rfl rfl (by kernel_rfl) hO84 0 rfl rfl (by rfl) rfl (by rfl)) ?_
             rintro _ w86 ⟨rfl, hO87, hs88⟩
             have hA2 : HAt B w0 w86 hb X Pl ([some (lch b10 146 (ctL ⟨a, b, m, dq q, dp p⟩)), some (lch b6 34 ghz), some (lch b5 28 (actL k a b m (dq q) (dp p) n)), some (lch b4 34 (ghL X K))] ++ R) := HAt.puts [some (lch b10 146 (ctL ⟨a, b, m, dq q, dp p⟩)), some (lch b6 34 ghz), some (lch b5 28 (actL k a b m (dq q) (dp p) n)), some (lch b4 34 (ghL X K))] hO87 hK2 hP2
             refine rl_nil <| run_seq <| run_region <| rl_v rfl rfl rfl (ov_loadW rfl Try.underlying34 rfl (by kernel_rfl) rfl (hA2.own) 3 rfl) ?_
             refine rl_v rfl rfl rfl (ov_loadW rfl Try.underlying146 rfl (by kernel_rfl) rfl (hA2.own) 0 rfl) ?_
             refine rl_call callable_77 rfl rfl rfl rfl rfl rfl (rTrade hA2 hI (.cons _ hs3) hX hj ⟨a, b, m, dq q, dp p⟩ (dq_rng q)) (fun e89 w90 hp91 => ?_)
             obtain ⟨T, L, rfl, hI2, hH2⟩ := hp91
             refine ⟨_, rfl, ?_⟩
             obtain ⟨K3, N3, hO5, hK3, hP3⟩ := HAt.pull [some (lch b10 146 (ctL ⟨a, b, m, dq q, dp p⟩)), some (lch b6 34 ghz), some (lch b5 28 (actL k a b m (dq q) (dp p) n)), some (lch b4 34 (ghL X K))] T hH2
             refine rl_v rfl rfl rfl (ov_move rfl rfl) <| rl_v rfl rfl rfl (ov_extract rfl rfl (by rfl)) ?_
             refine rl_v rfl rfl rfl (ov_extract rfl rfl (by rfl)) ?_
             refine rl_v rfl rfl rfl (ov_extract rfl rfl (by rfl)) ?_
             refine rl_ow rfl (ow_alloc _ rfl rfl rfl zero_34 rfl hO5) ?_
             rintro _ w92 ⟨b11, rfl, hO93, hs94⟩
             refine rl_ow rfl (ow_storeW rfl rfl (by kernel_rfl) hO93 0 rfl rfl (by rfl) rfl (by rfl)) ?_
             rintro _ w95 ⟨rfl, hO96, hs97⟩
             have hA3 : HAt B w0 w95 hb X Pl ([some (lch b11 34 (ghL (X.trade ⟨a, b, m, dq q, dp p⟩) L)), some (lch b10 146 (ctL ⟨a, b, m, dq q, dp p⟩)), some (lch b6 34 ghz), some (lch b5 28 (actL k a b m (dq q) (dp p) n)), some (lch b4 34 (ghL X K))] ++ (T ++ R)) := HAt.puts [some (lch b11 34 (ghL (X.trade ⟨a, b, m, dq q, dp p⟩) L)), some (lch b10 146 (ctL ⟨a, b, m, dq q, dp p⟩)), some (lch b6 34 ghz), some (lch b5 28 (actL k a b m (dq q) (dp p) n)), some (lch b4 34 (ghL X K))] hO96 hK3 hP3
             refine rl_v rfl rfl rfl (ov_assign rfl rfl) <| rl_v rfl rfl rfl (ov_assign rfl rfl) <| rl_nil <| run_seq <| run_region <| rl_v rfl rfl rfl (ov_move rfl rfl) <| rl_v rfl rfl rfl (ov_loadW rfl Try.underlying146 rfl (by kernel_rfl) rfl (hA3.own) 1 rfl) ?_
             refine rl_call callable_25 rfl rfl rfl rfl rfl rfl (trade_any hb B X ⟨a, b, m, dq q, dp p⟩ Pl _ w0 w95 hA3 hG) (fun e98 w99 hp100 => ?_)
             obtain ⟨rfl, hA4⟩ := hp100
             refine ⟨_, rfl, ?_⟩
             obtain ⟨K4, N4, hO6, hK4, hP4⟩ := HAt.pull [some (lch b11 34 (ghL (X.trade ⟨a, b, m, dq q, dp p⟩) L)), some (lch b10 146 (ctL ⟨a, b, m, dq q, dp p⟩)), some (lch b6 34 ghz), some (lch b5 28 (actL k a b m (dq q) (dp p) n)), some (lch b4 34 (ghL X K))] [] hA4
             refine rl_v rfl rfl rfl (ov_move rfl rfl) <| rl_v rfl rfl rfl (ov_extract rfl rfl (by rfl)) ?_
             refine rl_v rfl rfl rfl (ov_extract rfl rfl (by rfl)) ?_
             refine rl_v rfl rfl rfl (ov_assign rfl rfl) <| rl_v rfl rfl rfl (ov_assign rfl rfl) <| rl_nil <| run_seq <| run_region <| rl_v rfl rfl rfl (ov_loadW rfl Try.underlying34 rfl (by kernel_rfl) rfl hO6 0 rfl) ?_
             refine rl_v rfl rfl rfl (ov_move rfl rfl) <| rl_v rfl rfl rfl (ov_move rfl rfl) <| rl_v rfl rfl rfl (ov_eql rfl rfl rfl) <| rl_v rfl rfl rfl (ov_move rfl rfl) ?_
             first | refine rl_yesD 163 rfl (rfl) ?_ | refine rl_yes 163 rfl (rfl) ?_
             refine rl_gv rfl rfl rfl rfl rfl (ov_move rfl rfl) <| rl_gv rfl rfl rfl rfl rfl (ov_move rfl rfl) <| rl_gv rfl rfl rfl rfl rfl (ov_eql rfl rfl rfl) <| rl_v rfl rfl rfl (ov_pick_t rfl rfl rfl) <| rl_ow rfl (ow_storeW rfl rfl (by kernel_rfl) hO6 2 rfl rfl (by rfl) rfl (by rfl)) ?_
             rintro _ w101 ⟨rfl, hO102, hs103⟩
             have hd := X.dst4 (a := a) (b := b) (m := m) (q := q) (p := p) (n := n) (.inr (.inl e5))
             refine rl_v rfl rfl rfl (ov_assign rfl rfl) <| rl_nil <| run_ret Try.func34 (resW2 Try.results34 rfl rfl Try.underlying34 rfl (by kernel_rfl) hO102 2 rfl) ?_
             exact ⟨T, L, by rw [hd]; simp, by rw [hd]; exact hI2, by rw [hd]; exact (HAt.puts [some (lch b11 34 (ghL (X.trade ⟨a, b, m, dq q, dp p⟩) L)), some (lch b10 146 (ctL ⟨a, b, m, dq q, dp p⟩)), some (lch b6 34 (ghL (X.trade ⟨a, b, m, dq q, dp p⟩) L)), some (lch b5 28 (actL k a b m (dq q) (dp p) n)), some (lch b4 34 (ghL X K))] hO102 hK4 hP4).sheds (List.sublist_append_right _ _)⟩
            ·exfalso; exact qn e5
           ·refine run_seq <| run_region <| rl_v rfl rfl rfl (ov_eql rfl rfl rfl) <| rl_v rfl rfl rfl (ov_assign rfl rfl) <| rl_nil ?_
            first | refine run_cond_dec rfl (fun e6 => ?_) (fun n6 => ?_) | refine run_cond rfl (fun e6 => ?_) (fun n6 => ?_)
            ·refine run_skip ?_
             first | refine run_cond_dec rfl (fun qq => ?_) (fun qn => ?_) | refine run_cond rfl (fun qq => ?_) (fun qn => ?_)
             ·obtain ⟨K2, N2, hO4, hK2, hP2⟩ := HAt.pull [some (lch b6 34 ghz), some (lch b5 28 (actL k a b m (dq q) (dp p) n)), some (lch b4 34 (ghL X K))] [] hA
              refine run_seq <| run_region <| rl_v rfl rfl rfl (ov_fieldS rfl Try.underlying28 rfl (fo := 1) rfl (by kernel_rfl) rfl) ?_
              refine rl_v rfl rfl rfl (ov_load rfl Try.underlying3 rfl rfl (by exact (show _ = some (iv a) from hA.own.cellL 1 rfl (off := 1) rfl))) ?_
              refine rl_v rfl rfl rfl (ov_fieldS rfl Try.underlying28 rfl (fo := 2) rfl (by kernel_rfl) rfl) ?_
              refine rl_v rfl rfl rfl (ov_load rfl Try.underlying3 rfl rfl (by exact (show _ = some (iv b) from hA.own.cellL 1 rfl (off := 2) rfl))) ?_
              refine rl_v rfl rfl rfl (ov_fieldS rfl Try.underlying28 rfl (fo := 3) rfl (by kernel_rfl) rfl) ?_
              refine rl_v rfl rfl rfl (ov_load rfl Try.underlying3 rfl rfl (by exact (show _ = some (iv m) from hA.own.cellL 1 rfl (off := 3) rfl))) ?_
              refine rl_v rfl rfl rfl (ov_fieldS rfl Try.underlying28 rfl (fo := 4) rfl (by kernel_rfl) rfl) ?_
              refine rl_v rfl rfl rfl (ov_load rfl Try.underlying2 rfl rfl (by exact (show _ = some (iv (dq q)) from hA.own.cellL 1 rfl (off := 4) rfl))) ?_
              refine rl_v rfl rfl rfl (ov_fieldS rfl Try.underlying28 rfl (fo := 5) rfl (by kernel_rfl) rfl) ?_
              refine rl_v rfl rfl rfl (ov_load rfl Try.underlying2 rfl rfl (by exact (show _ = some (iv (dp p)) from hA.own.cellL 1 rfl (off := 5) rfl))) ?_
              refine rl_v rfl rfl rfl (ov_buildL rfl lay_146 rfl (us := [_, _, _, _, _]) rfl) <| rl_ow rfl (ow_alloc _ rfl rfl rfl zero_146 rfl hO4) ?_
              rintro _ w104 ⟨b10, rfl, hO105, hs106⟩
              refine rl_ow rfl (ow_storeW rfl rfl (by kernel_rfl) hO105 0 rfl rfl (by rfl) rfl (by rfl)) ?_
              rintro _ w107 ⟨rfl, hO108, hs109⟩
              have hA2 : HAt B w0 w107 hb X Pl ([some (lch b10 146 (ctL ⟨a, b, m, dq q, dp p⟩)), some (lch b6 34 ghz), some (lch b5 28 (actL k a b m (dq q) (dp p) n)), some (lch b4 34 (ghL X K))] ++ R) := HAt.puts [some (lch b10 146 (ctL ⟨a, b, m, dq q, dp p⟩)), some (lch b6 34 ghz), some (lch b5 28 (actL k a b m (dq q) (dp p) n)), some (lch b4 34 (ghL X K))] hO108 hK2 hP2
              refine rl_nil <| run_seq <| run_region <| rl_v rfl rfl rfl (ov_loadW rfl Try.underlying34 rfl (by kernel_rfl) rfl (hA2.own) 3 rfl) ?_
              refine rl_v rfl rfl rfl (ov_loadW rfl Try.underlying146 rfl (by kernel_rfl) rfl (hA2.own) 0 rfl) ?_
              refine rl_call callable_77 rfl rfl rfl rfl rfl rfl (rTrade hA2 hI (.cons _ hs3) hX hj ⟨a, b, m, dq q, dp p⟩ (dq_rng q)) (fun e110 w111 hp112 => ?_)
              obtain ⟨T, L, rfl, hI2, hH2⟩ := hp112
              refine ⟨_, rfl, ?_⟩
              obtain ⟨K3, N3, hO5, hK3, hP3⟩ := HAt.pull [some (lch b10 146 (ctL ⟨a, b, m, dq q, dp p⟩)), some (lch b6 34 ghz), some (lch b5 28 (actL k a b m (dq q) (dp p) n)), some (lch b4 34 (ghL X K))] T hH2
              refine rl_v rfl rfl rfl (ov_move rfl rfl) <| rl_v rfl rfl rfl (ov_extract rfl rfl (by rfl)) ?_
              refine rl_v rfl rfl rfl (ov_extract rfl rfl (by rfl)) ?_
              refine rl_v rfl rfl rfl (ov_extract rfl rfl (by rfl)) ?_
              refine rl_ow rfl (ow_alloc _ rfl rfl rfl zero_34 rfl hO5) ?_
              rintro _ w113 ⟨b11, rfl, hO114, hs115⟩
              refine rl_ow rfl (ow_storeW rfl rfl (by kernel_rfl) hO114 0 rfl rfl (by rfl) rfl (by rfl)) ?_
              rintro _ w116 ⟨rfl, hO117, hs118⟩
              have hA3 : HAt B w0 w116 hb X Pl ([some (lch b11 34 (ghL (X.trade ⟨a, b, m, dq q, dp p⟩) L)), some (lch b10 146 (ctL ⟨a, b, m, dq q, dp p⟩)), some (lch b6 34 ghz), some (lch b5 28 (actL k a b m (dq q) (dp p) n)), some (lch b4 34 (ghL X K))] ++ (T ++ R)) := HAt.puts [some (lch b11 34 (ghL (X.trade ⟨a, b, m, dq q, dp p⟩) L)), some (lch b10 146 (ctL ⟨a, b, m, dq q, dp p⟩)), some (lch b6 34 ghz), some (lch b5 28 (actL k a b m (dq q) (dp p) n)), some (lch b4 34 (ghL X K))] hO117 hK3 hP3
              refine rl_v rfl rfl rfl (ov_assign rfl rfl) <| rl_v rfl rfl rfl (ov_assign rfl rfl) <| rl_nil <| run_seq <| run_region <| rl_v rfl rfl rfl (ov_move rfl rfl) <| rl_v rfl rfl rfl (ov_loadW rfl Try.underlying146 rfl (by kernel_rfl) rfl (hA3.own) 1 rfl) ?_
              refine rl_call callable_25 rfl rfl rfl rfl rfl rfl (trade_any hb B X ⟨a, b, m, dq q, dp p⟩ Pl _ w0 w116 hA3 hG) (fun e119 w120 hp121 => ?_)
              obtain ⟨rfl, hA4⟩ := hp121
              refine ⟨_, rfl, ?_⟩
              obtain ⟨K4, N4, hO6, hK4, hP4⟩ := HAt.pull [some (lch b11 34 (ghL (X.trade ⟨a, b, m, dq q, dp p⟩) L)), some (lch b10 146 (ctL ⟨a, b, m, dq q, dp p⟩)), some (lch b6 34 ghz), some (lch b5 28 (actL k a b m (dq q) (dp p) n)), some (lch b4 34 (ghL X K))] [] hA4
              refine rl_v rfl rfl rfl (ov_move rfl rfl) <| rl_v rfl rfl rfl (ov_extract rfl rfl (by rfl)) ?_
              refine rl_v rfl rfl rfl (ov_extract rfl rfl (by rfl)) ?_
              refine rl_v rfl rfl rfl (ov_assign rfl rfl) <| rl_v rfl rfl rfl (ov_assign rfl rfl) <| rl_nil <| run_seq <| run_region <| rl_v rfl rfl rfl (ov_loadW rfl Try.underlying34 rfl (by kernel_rfl) rfl hO6 0 rfl) ?_
              refine rl_v rfl rfl rfl (ov_move rfl rfl) <| rl_v rfl rfl rfl (ov_move rfl rfl) <| rl_v rfl rfl rfl (ov_eql rfl rfl rfl) <| rl_v rfl rfl rfl (ov_move rfl rfl) ?_
              first | refine rl_yesD 163 rfl (rfl) ?_ | refine rl_yes 163 rfl (rfl) ?_
              refine rl_gv rfl rfl rfl rfl rfl (ov_move rfl rfl) <| rl_gv rfl rfl rfl rfl rfl (ov_move rfl rfl) <| rl_gv rfl rfl rfl rfl rfl (ov_eql rfl rfl rfl) <| rl_v rfl rfl rfl (ov_pick_t rfl rfl rfl) <| rl_ow rfl (ow_storeW rfl rfl (by kernel_rfl) hO6 2 rfl rfl (by rfl) rfl (by rfl)) ?_
              rintro _ w122 ⟨rfl, hO123, hs124⟩
              have hd := X.dst4 (a := a) (b := b) (m := m) (q := q) (p := p) (n := n) (.inr (.inr (.inl e6)))
              refine rl_v rfl rfl rfl (ov_assign rfl rfl) <| rl_nil <| run_ret Try.func34 (resW2 Try.results34 rfl rfl Try.underlying34 rfl (by kernel_rfl) hO123 2 rfl) ?_
              exact ⟨T, L, by rw [hd]; simp, by rw [hd]; exact hI2, by rw [hd]; exact (HAt.puts [some (lch b11 34 (ghL (X.trade ⟨a, b, m, dq q, dp p⟩) L)), some (lch b10 146 (ctL ⟨a, b, m, dq q, dp p⟩)), some (lch b6 34 (ghL (X.trade ⟨a, b, m, dq q, dp p⟩) L)), some (lch b5 28 (actL k a b m (dq q) (dp p) n)), some (lch b4 34 (ghL X K))] hO123 hK4 hP4).sheds (List.sublist_append_right _ _)⟩
             ·exfalso; exact qn e6
            ·refine run_region <| rl_v rfl rfl rfl (ov_eql rfl rfl rfl) <| rl_v rfl rfl rfl (ov_assign rfl rfl) <| rl_nil ?_
             first | refine run_cond_dec rfl (fun e7 => ?_) (fun n7 => ?_) | refine run_cond rfl (fun e7 => ?_) (fun n7 => ?_)
             ·obtain ⟨K2, N2, hO4, hK2, hP2⟩ := HAt.pull [some (lch b6 34 ghz), some (lch b5 28 (actL k a b m (dq q) (dp p) n)), some (lch b4 34 (ghL X K))] [] hA
              refine run_seq <| run_region <| rl_v rfl rfl rfl (ov_fieldS rfl Try.underlying28 rfl (fo := 1) rfl (by kernel_rfl) rfl) ?_
              refine rl_v rfl rfl rfl (ov_load rfl Try.underlying3 rfl rfl (by exact (show _ = some (iv a) from hA.own.cellL 1 rfl (off := 1) rfl))) ?_
              refine rl_v rfl rfl rfl (ov_fieldS rfl Try.underlying28 rfl (fo := 2) rfl (by kernel_rfl) rfl) ?_
              refine rl_v rfl rfl rfl (ov_load rfl Try.underlying3 rfl rfl (by exact (show _ = some (iv b) from hA.own.cellL 1 rfl (off := 2) rfl))) ?_
              refine rl_v rfl rfl rfl (ov_fieldS rfl Try.underlying28 rfl (fo := 3) rfl (by kernel_rfl) rfl) ?_
              refine rl_v rfl rfl rfl (ov_load rfl Try.underlying3 rfl rfl (by exact (show _ = some (iv m) from hA.own.cellL 1 rfl (off := 3) rfl))) ?_
              refine rl_v rfl rfl rfl (ov_fieldS rfl Try.underlying28 rfl (fo := 4) rfl (by kernel_rfl) rfl) ?_
              refine rl_v rfl rfl rfl (ov_load rfl Try.underlying2 rfl rfl (by exact (show _ = some (iv (dq q)) from hA.own.cellL 1 rfl (off := 4) rfl))) ?_
              refine rl_v rfl rfl rfl (ov_fieldS rfl Try.underlying28 rfl (fo := 5) rfl (by kernel_rfl) rfl) ?_
              refine rl_v rfl rfl rfl (ov_load rfl Try.underlying2 rfl rfl (by exact (show _ = some (iv (dp p)) from hA.own.cellL 1 rfl (off := 5) rfl))) ?_
              refine rl_v rfl rfl rfl (ov_buildL rfl lay_146 rfl (us := [_, _, _, _, _]) rfl) <| rl_ow rfl (ow_alloc _ rfl rfl rfl zero_146 rfl hO4) ?_
              rintro _ w125 ⟨b10, rfl, hO126, hs127⟩
              refine rl_ow rfl (ow_storeW rfl rfl (by kernel_rfl) hO126 0 rfl rfl (by rfl) rfl (by rfl)) ?_
              rintro _ w128 ⟨rfl, hO129, hs130⟩
              have hA2 : HAt B w0 w128 hb X Pl ([some (lch b10 146 (ctL ⟨a, b, m, dq q, dp p⟩)), some (lch b6 34 ghz), some (lch b5 28 (actL k a b m (dq q) (dp p) n)), some (lch b4 34 (ghL X K))] ++ R) := HAt.puts [some (lch b10 146 (ctL ⟨a, b, m, dq q, dp p⟩)), some (lch b6 34 ghz), some (lch b5 28 (actL k a b m (dq q) (dp p) n)), some (lch b4 34 (ghL X K))] hO129 hK2 hP2
              refine rl_nil <| run_seq <| run_region <| rl_v rfl rfl rfl (ov_loadW rfl Try.underlying34 rfl (by kernel_rfl) rfl (hA2.own) 3 rfl) ?_
              refine rl_v rfl rfl rfl (ov_loadW rfl Try.underlying146 rfl (by kernel_rfl) rfl (hA2.own) 0 rfl) ?_
              refine rl_call callable_77 rfl rfl rfl rfl rfl rfl (rTrade hA2 hI (.cons _ hs3) hX hj ⟨a, b, m, dq q, dp p⟩ (dq_rng q)) (fun e131 w132 hp133 => ?_)
              obtain ⟨T, L, rfl, hI2, hH2⟩ := hp133
              refine ⟨_, rfl, ?_⟩
              obtain ⟨K3, N3, hO5, hK3, hP3⟩ := HAt.pull [some (lch b10 146 (ctL ⟨a, b, m, dq q, dp p⟩)), some (lch b6 34 ghz), some (lch b5 28 (actL k a b m (dq q) (dp p) n)), some (lch b4 34 (ghL X K))] T hH2
              refine rl_v rfl rfl rfl (ov_move rfl rfl) <| rl_v rfl rfl rfl (ov_extract rfl rfl (by rfl)) ?_
              refine rl_v rfl rfl rfl (ov_extract rfl rfl (by rfl)) ?_
              refine rl_v rfl rfl rfl (ov_extract rfl rfl (by rfl)) ?_
              refine rl_ow rfl (ow_alloc _ rfl rfl rfl zero_34 rfl hO5) ?_
              rintro _ w134 ⟨b11, rfl, hO135, hs136⟩
              refine rl_ow rfl (ow_storeW rfl rfl (by kernel_rfl) hO135 0 rfl rfl (by rfl) rfl (by rfl)) ?_
              rintro _ w137 ⟨rfl, hO138, hs139⟩
              have hA3 : HAt B w0 w137 hb X Pl ([some (lch b11 34 (ghL (X.trade ⟨a, b, m, dq q, dp p⟩) L)), some (lch b10 146 (ctL ⟨a, b, m, dq q, dp p⟩)), some (lch b6 34 ghz), some (lch b5 28 (actL k a b m (dq q) (dp p) n)), some (lch b4 34 (ghL X K))] ++ (T ++ R)) := HAt.puts [some (lch b11 34 (ghL (X.trade ⟨a, b, m, dq q, dp p⟩) L)), some (lch b10 146 (ctL ⟨a, b, m, dq q, dp p⟩)), some (lch b6 34 ghz), some (lch b5 28 (actL k a b m (dq q) (dp p) n)), some (lch b4 34 (ghL X K))] hO138 hK3 hP3
              refine rl_v rfl rfl rfl (ov_assign rfl rfl) <| rl_v rfl rfl rfl (ov_assign rfl rfl) <| rl_nil <| run_seq <| run_region <| rl_v rfl rfl rfl (ov_move rfl rfl) <| rl_v rfl rfl rfl (ov_loadW rfl Try.underlying146 rfl (by kernel_rfl) rfl (hA3.own) 1 rfl) ?_
              refine rl_call callable_25 rfl rfl rfl rfl rfl rfl (trade_any hb B X ⟨a, b, m, dq q, dp p⟩ Pl _ w0 w137 hA3 hG) (fun e140 w141 hp142 => ?_)
              obtain ⟨rfl, hA4⟩ := hp142
              refine ⟨_, rfl, ?_⟩
              obtain ⟨K4, N4, hO6, hK4, hP4⟩ := HAt.pull [some (lch b11 34 (ghL (X.trade ⟨a, b, m, dq q, dp p⟩) L)), some (lch b10 146 (ctL ⟨a, b, m, dq q, dp p⟩)), some (lch b6 34 ghz), some (lch b5 28 (actL k a b m (dq q) (dp p) n)), some (lch b4 34 (ghL X K))] [] hA4
              refine rl_v rfl rfl rfl (ov_move rfl rfl) <| rl_v rfl rfl rfl (ov_extract rfl rfl (by rfl)) ?_
              refine rl_v rfl rfl rfl (ov_extract rfl rfl (by rfl)) ?_
              refine rl_v rfl rfl rfl (ov_assign rfl rfl) <| rl_v rfl rfl rfl (ov_assign rfl rfl) <| rl_nil <| run_seq <| run_region <| rl_v rfl rfl rfl (ov_loadW rfl Try.underlying34 rfl (by kernel_rfl) rfl hO6 0 rfl) ?_
              refine rl_v rfl rfl rfl (ov_move rfl rfl) <| rl_v rfl rfl rfl (ov_move rfl rfl) <| rl_v rfl rfl rfl (ov_eql rfl rfl rfl) <| rl_v rfl rfl rfl (ov_move rfl rfl) ?_
              first | refine rl_yesD 163 rfl (rfl) ?_ | refine rl_yes 163 rfl (rfl) ?_
              refine rl_gv rfl rfl rfl rfl rfl (ov_move rfl rfl) <| rl_gv rfl rfl rfl rfl rfl (ov_move rfl rfl) <| rl_gv rfl rfl rfl rfl rfl (ov_eql rfl rfl rfl) <| rl_v rfl rfl rfl (ov_pick_t rfl rfl rfl) <| rl_ow rfl (ow_storeW rfl rfl (by kernel_rfl) hO6 2 rfl rfl (by rfl) rfl (by rfl)) ?_
              rintro _ w143 ⟨rfl, hO144, hs145⟩
              have hd := X.dst4 (a := a) (b := b) (m := m) (q := q) (p := p) (n := n) (.inr (.inr (.inr e7)))
              refine rl_v rfl rfl rfl (ov_assign rfl rfl) <| rl_nil <| run_ret Try.func34 (resW2 Try.results34 rfl rfl Try.underlying34 rfl (by kernel_rfl) hO144 2 rfl) ?_
              exact ⟨T, L, by rw [hd]; simp, by rw [hd]; exact hI2, by rw [hd]; exact (HAt.puts [some (lch b11 34 (ghL (X.trade ⟨a, b, m, dq q, dp p⟩) L)), some (lch b10 146 (ctL ⟨a, b, m, dq q, dp p⟩)), some (lch b6 34 (ghL (X.trade ⟨a, b, m, dq q, dp p⟩) L)), some (lch b5 28 (actL k a b m (dq q) (dp p) n)), some (lch b4 34 (ghL X K))] hO144 hK4 hP4).sheds (List.sublist_append_right _ _)⟩
             ·refine run_seq <| run_region <| rl_v rfl rfl rfl (ov_eql rfl rfl rfl) <| rl_v rfl rfl rfl (ov_assign rfl rfl) <| rl_nil ?_
              first | refine run_cond_dec rfl (fun e8 => ?_) (fun n8 => ?_) | refine run_cond rfl (fun e8 => ?_) (fun n8 => ?_)
              ·refine run_seq <| run_region <| rl_v rfl rfl rfl (ov_loadW rfl Try.underlying34 rfl (by kernel_rfl) rfl (hA.own) 2 rfl) ?_
               refine rl_v rfl rfl rfl (ov_fieldS rfl Try.underlying28 rfl (fo := 1) rfl (by kernel_rfl) rfl) ?_
               refine rl_v rfl rfl rfl (ov_load rfl Try.underlying3 rfl rfl (by exact (show _ = some (iv a) from hA.own.cellL 1 rfl (off := 1) rfl))) ?_
               refine rl_v rfl rfl rfl (ov_fieldS rfl Try.underlying28 rfl (fo := 2) rfl (by kernel_rfl) rfl) ?_
               refine rl_v rfl rfl rfl (ov_load rfl Try.underlying3 rfl rfl (by exact (show _ = some (iv b) from hA.own.cellL 1 rfl (off := 2) rfl))) ?_
               refine rl_v rfl rfl rfl (ov_fieldS rfl Try.underlying28 rfl (fo := 3) rfl (by kernel_rfl) rfl) ?_
               refine rl_v rfl rfl rfl (ov_load rfl Try.underlying3 rfl rfl (by exact (show _ = some (iv m) from hA.own.cellL 1 rfl (off := 3) rfl))) ?_
               refine rl_v rfl rfl rfl (ov_fieldS rfl Try.underlying28 rfl (fo := 4) rfl (by kernel_rfl) rfl) ?_
               refine rl_v rfl rfl rfl (ov_load rfl Try.underlying2 rfl rfl (by exact (show _ = some (iv (dq q)) from hA.own.cellL 1 rfl (off := 4) rfl))) ?_
               refine rl_call callable_78 rfl rfl rfl rfl rfl rfl (rDeliver hA hI hs3 hX hj a b m (dq q)) (fun e146 w147 hp148 => ?_)
               obtain ⟨T, L, rfl, hI2, hH2⟩ := hp148
               refine ⟨_, rfl, ?_⟩
               obtain ⟨K2, N2, hO4, hK2, hP2⟩ := HAt.pull [some (lch b6 34 ghz), some (lch b5 28 (actL k a b m (dq q) (dp p) n)), some (lch b4 34 (ghL X K))] T hH2
               refine rl_v rfl rfl rfl (ov_move rfl rfl) <| rl_v rfl rfl rfl (ov_extract rfl rfl (by rfl)) ?_
               refine rl_v rfl rfl rfl (ov_extract rfl rfl (by rfl)) ?_
               refine rl_ow rfl (ow_storeW rfl rfl (by kernel_rfl) hO4 2 rfl rfl (by rfl) rfl (by rfl)) ?_
               rintro _ w149 ⟨rfl, hO150, hs151⟩
               have hA2 : HAt B w0 w149 hb X Pl ([some (lch b6 34 ghz), some (lch b5 28 (actL k a b m (dq q) (dp p) n)), some (lch b4 34 (ghL (X.deliver ⟨a, b, m, dq q, 1⟩) L))] ++ (T ++ R)) := HAt.puts [some (lch b6 34 ghz), some (lch b5 28 (actL k a b m (dq q) (dp p) n)), some (lch b4 34 (ghL (X.deliver ⟨a, b, m, dq q, 1⟩) L))] hO150 hK2 hP2
               refine rl_v rfl rfl rfl (ov_assign rfl rfl) <| rl_nil <| run_region <| rl_v rfl rfl rfl (ov_move rfl rfl) <| rl_v rfl rfl rfl (ov_fieldS rfl Try.underlying28 rfl (fo := 1) rfl (by kernel_rfl) rfl) ?_
               refine rl_v rfl rfl rfl (ov_load rfl Try.underlying3 rfl rfl (by exact (show _ = some (iv a) from hA2.own.cellL 1 rfl (off := 1) rfl))) ?_
               refine rl_v rfl rfl rfl (ov_fieldS rfl Try.underlying28 rfl (fo := 2) rfl (by kernel_rfl) rfl) ?_
               refine rl_v rfl rfl rfl (ov_load rfl Try.underlying3 rfl rfl (by exact (show _ = some (iv b) from hA2.own.cellL 1 rfl (off := 2) rfl))) ?_
               refine rl_v rfl rfl rfl (ov_fieldS rfl Try.underlying28 rfl (fo := 3) rfl (by kernel_rfl) rfl) ?_
               refine rl_v rfl rfl rfl (ov_load rfl Try.underlying3 rfl rfl (by exact (show _ = some (iv m) from hA2.own.cellL 1 rfl (off := 3) rfl))) ?_
               refine rl_v rfl rfl rfl (ov_fieldS rfl Try.underlying28 rfl (fo := 4) rfl (by kernel_rfl) rfl) ?_
               refine rl_v rfl rfl rfl (ov_load rfl Try.underlying2 rfl rfl (by exact (show _ = some (iv (dq q)) from hA2.own.cellL 1 rfl (off := 4) rfl))) ?_
               refine rl_call callable_28 rfl rfl rfl rfl rfl rfl (deliver_any hb B X a b m (dq q) Pl _ w0 w149 hA2 hG) (fun e152 w153 hp154 => ?_)
               obtain ⟨rfl, hA3⟩ := hp154
               refine ⟨_, rfl, ?_⟩
               refine rl_v rfl rfl rfl (ov_assign rfl rfl) <| rl_nil <| run_inBlock ?_
               refine Run.use (hk25 (X.dvr ⟨a, b, m, dq q, 1⟩) ((X.deliver ⟨a, b, m, dq q, 1⟩)) (T) (L) _ ?_) (And.intro (by exact slot_int rfl (by first | omega)) (And.intro (by exact slot_int rfl (by first | omega)) (And.intro rfl (And.intro rfl trivial))))
               exact ⟨(X.dst8 e8).symm, hI2, hA3⟩
              ·refine run_seq <| run_seq <| run_region <| rl_v rfl rfl rfl (ov_eql rfl rfl rfl) <| rl_v rfl rfl rfl (ov_assign rfl rfl) <| rl_nil ?_
               first | refine run_cond_dec rfl (fun e9 => ?_) (fun n9 => ?_) | refine run_cond rfl (fun e9 => ?_) (fun n9 => ?_)
               ·refine run_skip ?_
                first | refine run_cond_dec rfl (fun qq => ?_) (fun qn => ?_) | refine run_cond rfl (fun qq => ?_) (fun qn => ?_)
                ·refine run_seq <| run_region <| rl_v rfl rfl rfl (ov_loadW rfl Try.underlying34 rfl (by kernel_rfl) rfl (hA.own) 2 rfl) ?_
                 refine rl_v rfl rfl rfl (ov_fieldS rfl Try.underlying28 rfl (fo := 3) rfl (by kernel_rfl) rfl) ?_
                 refine rl_v rfl rfl rfl (ov_load rfl Try.underlying3 rfl rfl (by exact (show _ = some (iv m) from hA.own.cellL 1 rfl (off := 3) rfl))) ?_
                 refine rl_v rfl rfl rfl (ov_fieldS rfl Try.underlying28 rfl (fo := 5) rfl (by kernel_rfl) rfl) ?_
                 refine rl_v rfl rfl rfl (ov_load rfl Try.underlying2 rfl rfl (by exact (show _ = some (iv (dp p)) from hA.own.cellL 1 rfl (off := 5) rfl))) ?_
                 refine rl_call callable_79 rfl rfl rfl rfl rfl rfl (rMark hA hI hs3 hX hj m (dp p)) (fun e155 w156 hp157 => ?_)
                 obtain ⟨T, L, rfl, hI2, hH2⟩ := hp157
                 refine ⟨_, rfl, ?_⟩
                 obtain ⟨K2, N2, hO4, hK2, hP2⟩ := HAt.pull [some (lch b6 34 ghz), some (lch b5 28 (actL k a b m (dq q) (dp p) n)), some (lch b4 34 (ghL X K))] T hH2
                 refine rl_v rfl rfl rfl (ov_move rfl rfl) <| rl_v rfl rfl rfl (ov_extract rfl rfl (by rfl)) ?_
                 refine rl_v rfl rfl rfl (ov_extract rfl rfl (by rfl)) ?_
                 refine rl_ow rfl (ow_alloc _ rfl rfl rfl zero_34 rfl hO4) ?_
                 rintro _ w158 ⟨b16, rfl, hO159, hs160⟩
                 refine rl_ow rfl (ow_storeW rfl rfl (by kernel_rfl) hO159 0 rfl rfl (by rfl) rfl (by rfl)) ?_
                 rintro _ w161 ⟨rfl, hO162, hs163⟩
                 have hA2 : HAt B w0 w161 hb X Pl ([some (lch b16 34 (ghL (X.mark m (dp p)) L)), some (lch b6 34 ghz), some (lch b5 28 (actL k a b m (dq q) (dp p) n)), some (lch b4 34 (ghL X K))] ++ (T ++ R)) := HAt.puts [some (lch b16 34 (ghL (X.mark m (dp p)) L)), some (lch b6 34 ghz), some (lch b5 28 (actL k a b m (dq q) (dp p) n)), some (lch b4 34 (ghL X K))] hO162 hK2 hP2
                 refine rl_v rfl rfl rfl (ov_assign rfl rfl) <| rl_nil <| run_seq <| run_region <| rl_v rfl rfl rfl (ov_move rfl rfl) <| rl_v rfl rfl rfl (ov_fieldS rfl Try.underlying28 rfl (fo := 3) rfl (by kernel_rfl) rfl) ?_
                 refine rl_v rfl rfl rfl (ov_load rfl Try.underlying3 rfl rfl (by exact (show _ = some (iv m) from hA2.own.cellL 2 rfl (off := 3) rfl))) ?_
                 refine rl_v rfl rfl rfl (ov_fieldS rfl Try.underlying28 rfl (fo := 5) rfl (by kernel_rfl) rfl) ?_
                 refine rl_v rfl rfl rfl (ov_load rfl Try.underlying2 rfl rfl (by exact (show _ = some (iv (dp p)) from hA2.own.cellL 2 rfl (off := 5) rfl))) ?_
                 refine rl_call callable_22 rfl rfl rfl rfl rfl rfl (mark_l hb B X Pl _ w0 w161 hA2 hG m (dp p)) (fun e164 w165 hp166 => ?_)
                 obtain ⟨v, cv, l, rfl, ⟨hl, hrv, hlv⟩, hA3⟩ := hp166
                 refine ⟨_, rfl, ?_⟩
                 obtain ⟨va, vp, rfl⟩ := hrv.val
                 have hd := X.dst9 (a := a) (b := b) (m := m) (q := q) (p := p) (n := n) (.inl e9)
                 refine rl_v rfl rfl rfl (ov_move rfl rfl) <| rl_v rfl rfl rfl (ov_extract rfl rfl (by rfl)) ?_
                 refine rl_v rfl rfl rfl (ov_extract rfl rfl (by rfl)) ?_
                 refine rl_v rfl rfl rfl (ov_assign rfl rfl) <| rl_v rfl rfl rfl (ov_assign rfl rfl) <| rl_nil <| run_seq <| run_region <| rl_v rfl rfl rfl (ov_assign rfl rfl) <| rl_nil <| run_seq <| run_seq <| run_region <| rl_v rfl rfl rfl (ov_move rfl rfl) <| rl_v rfl rfl rfl (ov_eql rfl rfl rfl) <| rl_nil ?_
                 first | refine run_cond_dec rfl (fun f0 => ?_) (fun f0 => ?_) | refine run_cond rfl (fun f0 => ?_) (fun f0 => ?_)
                 ·have hXm := hX.mark (by omega) m (dp p) (dp_rng p)
                  have hmm : (X.mark m (dp p)).mem = X.mem := congrArg Prod.fst (mar_mem X m (dp p))
                  have hmk : (X.mark m (dp p)).cls (X.mark m (dp p)).mem = l := by rw [hmm, hl]; exact (if_pos f0).symm
                  refine run_region <| rl_v rfl rfl rfl (ov_loadW rfl Try.underlying34 rfl (by kernel_rfl) rfl (hA3.own) 1 rfl) ?_
                  refine rl_call callable_80 rfl rfl rfl rfl rfl rfl (rCallsL L hA3 hI2 (sub5 hs) (hXm.gg (by omega)) l hmk) (fun e167 w168 hp169 => ?_)
                  obtain ⟨c2, ⟨v2, rfl, hr2⟩, hA5⟩ := hp169
                  refine ⟨_, rfl, ?_⟩
                  obtain ⟨va2, vp2, rfl⟩ := hr2.val
                  obtain ⟨K5, N5, hO7, hK5, hP5⟩ := HAt.pull [c2, cv, some (lch b16 34 (ghL (X.mark m (dp p)) L)), some (lch b6 34 ghz), some (lch b5 28 (actL k a b m (dq q) (dp p) n)), some (lch b4 34 (ghL X K))] [] hA5
                  refine rl_v rfl rfl rfl (ov_assign rfl rfl) <| rl_nil <| run_seq <| run_held (fun w' => Own B w0 w' ([some (lch b16 34 (ghL (X.mark m (dp p)) L))])) mixed ?_
                  have hO171 := hO7.drew
                  generalize World.drew w168 = w170 at hO171 ⊢
                  have hS172 : Own B w0 w170 ([some (lch b16 34 (ghL (X.mark m (dp p)) L))]) := by exact hO171.sub (.cons _ (.cons _ (.cons_cons _ (List.nil_sublist _))))
                  refine rh_v 0 rfl (by kernel_rfl) rfl rfl rfl hS172 (fun _ hS => ov_loadW rfl Try.underlying34 rfl (by kernel_rfl) rfl hS 0 rfl) ?_
                  refine rh_v 1 rfl (by kernel_rfl) rfl rfl rfl hS172 (fun _ hS => ov_move rfl rfl) ?_
                  refine rh_v 2 rfl (by kernel_rfl) rfl rfl rfl hS172 (fun _ hS => ov_move rfl rfl) ?_
                  refine rh_v 3 rfl (by kernel_rfl) rfl rfl rfl hS172 (fun _ hS => ov_eql rfl rfl rfl) ?_
                  refine rh_v 4 rfl (by kernel_rfl) rfl rfl rfl hS172 (fun _ hS => ov_move rfl rfl) ?_
                  first | refine rh_yesD 222 rfl (rfl) ?_ | refine rh_yes 222 rfl (rfl) ?_
                  refine rh_gv 5 rfl (by kernel_rfl) rfl rfl rfl rfl rfl hS172 (fun _ hS => ov_move rfl rfl) ?_
                  refine rh_gv 6 rfl (by kernel_rfl) rfl rfl rfl rfl rfl hS172 (fun _ hS => ov_move rfl rfl) ?_
                  refine rh_any1 7 (by kernel_rfl) ?_
                  refine rc_gop rfl rfl rfl rfl (ow_call2 callable_81 rfl rfl rfl rfl rfl (rInts (HAt.puts [c2, cv, some (lch b16 34 (ghL (X.mark m (dp p)) L)), some (lch b6 34 ghz), some (lch b5 28 (actL k a b m (dq q) (dp p) n)), some (lch b4 34 (ghL X K))] hO171 hK5 hP5) (srcRow hrv (k := 1) rfl) (srcRow hr2 (k := 0) rfl) (fun _ _ _ => rfl) (by omega)) (by intro e w' hp; obtain ⟨rfl, hA6⟩ := hp; exact ⟨_, rfl⟩)) ?_
                  rintro _ w175 ⟨_, v173, he176, rfl, hp174⟩
                  obtain ⟨rfl, hA6⟩ := hp174
                  injection he176 with he176; subst he176
                  obtain ⟨K6, N6, hO9, hK6, hP6⟩ := HAt.pull [c2, cv, some (lch b16 34 (ghL (X.mark m (dp p)) L)), some (lch b6 34 ghz), some (lch b5 28 (actL k a b m (dq q) (dp p) n)), some (lch b4 34 (ghL X K))] [] hA6
                  have hS177 : Own B w0 w175 ([some (lch b16 34 (ghL (X.mark m (dp p)) L))]) := by exact hO9.sub (.cons _ (.cons _ (.cons_cons _ (List.nil_sublist _))))
                  refine ⟨hS177, ?_⟩
                  refine rh_v 8 rfl (by kernel_rfl) rfl rfl rfl hS177 (fun _ hS => ov_pick_t rfl rfl rfl) ?_
                  refine rh_any1 9 (by kernel_rfl) ?_
                  refine rc_op rfl rfl (ow_storeW rfl rfl (by kernel_rfl) hO9 3 rfl rfl (by rfl) rfl (by rfl)) ?_
                  rintro _ w178 ⟨rfl, hO179, hs180⟩
                  have hS181 : Own B w0 w178 ([some (lch b16 34 (ghL (X.mark m (dp p)) L))]) := by exact hO179.sub (.cons _ (.cons _ (.cons_cons _ (List.nil_sublist _))))
                  refine ⟨hS181, ?_⟩
                  refine rh_v 10 rfl (by kernel_rfl) rfl rfl rfl hS181 (fun _ hS => ov_assign rfl rfl) ?_
                  refine rh_done (by kernel_rfl) ?_
                  refine run_ret Try.func34 (resW2 Try.results34 rfl rfl Try.underlying34 rfl (by kernel_rfl) hO179 3 rfl) ?_
                  exact ⟨T, L, by rw [hd], by rw [hd]; exact hI2, by rw [hd]; exact (HAt.puts [c2, cv, some (lch b16 34 (ghL (X.mark m (dp p)) L)), some (lch b6 34 (ghL (X.mark m (dp p)) L)), some (lch b5 28 (actL k a b m (dq q) (dp p) n)), some (lch b4 34 (ghL X K))] hO179 hK6 hP6).sheds (List.sublist_append_right _ _)⟩
                 ·obtain rfl : l = [] := hl.trans (if_neg f0)
                  obtain ⟨K5, N5, hO8, hK5, hP5⟩ := HAt.pull [cv, some (lch b16 34 (ghL (X.mark m (dp p)) L)), some (lch b6 34 ghz), some (lch b5 28 (actL k a b m (dq q) (dp p) n)), some (lch b4 34 (ghL X K))] [] hA3
                  refine run_skip <| run_seq <| run_held (fun w' => Own B w0 w' ([some (lch b16 34 (ghL (X.mark m (dp p)) L))])) mixed ?_
                  have hO183 := hO8.drew
                  generalize World.drew w165 = w182 at hO183 ⊢
                  have hS184 : Own B w0 w182 ([some (lch b16 34 (ghL (X.mark m (dp p)) L))]) := by exact hO183.sub (.cons _ (.cons_cons _ (List.nil_sublist _)))
                  refine rh_v 0 rfl (by kernel_rfl) rfl rfl rfl hS184 (fun _ hS => ov_loadW rfl Try.underlying34 rfl (by kernel_rfl) rfl hS 0 rfl) ?_
                  refine rh_v 1 rfl (by kernel_rfl) rfl rfl rfl hS184 (fun _ hS => ov_move rfl rfl) ?_
                  refine rh_v 2 rfl (by kernel_rfl) rfl rfl rfl hS184 (fun _ hS => ov_move rfl rfl) ?_
                  refine rh_v 3 rfl (by kernel_rfl) rfl rfl rfl hS184 (fun _ hS => ov_eql rfl rfl rfl) ?_
                  refine rh_v 4 rfl (by kernel_rfl) rfl rfl rfl hS184 (fun _ hS => ov_move rfl rfl) ?_
                  first | refine rh_yesD 222 rfl (rfl) ?_ | refine rh_yes 222 rfl (rfl) ?_
                  refine rh_gv 5 rfl (by kernel_rfl) rfl rfl rfl rfl rfl hS184 (fun _ hS => ov_move rfl rfl) ?_
                  refine rh_gv 6 rfl (by kernel_rfl) rfl rfl rfl rfl rfl hS184 (fun _ hS => ov_move rfl rfl) ?_
                  refine rh_any1 7 (by kernel_rfl) ?_
                  refine rc_gop rfl rfl rfl rfl (ow_call2 callable_81 rfl rfl rfl rfl rfl (rInts (HAt.puts [cv, some (lch b16 34 (ghL (X.mark m (dp p)) L)), some (lch b6 34 ghz), some (lch b5 28 (actL k a b m (dq q) (dp p) n)), some (lch b4 34 (ghL X K))] hO183 hK5 hP5) (srcRow hrv (k := 0) rfl) (srcNil _ (fun i => glH [] i)) (fun _ _ _ => rfl) (by decide)) (by intro e w' hp; obtain ⟨rfl, hA6⟩ := hp; exact ⟨_, rfl⟩)) ?_
                  rintro _ w187 ⟨_, v185, he188, rfl, hp186⟩
                  obtain ⟨rfl, hA6⟩ := hp186
                  injection he188 with he188; subst he188
                  obtain ⟨K6, N6, hO9, hK6, hP6⟩ := HAt.pull [cv, some (lch b16 34 (ghL (X.mark m (dp p)) L)), some (lch b6 34 ghz), some (lch b5 28 (actL k a b m (dq q) (dp p) n)), some (lch b4 34 (ghL X K))] [] hA6
                  have hS189 : Own B w0 w187 ([some (lch b16 34 (ghL (X.mark m (dp p)) L))]) := by exact hO9.sub (.cons _ (.cons_cons _ (List.nil_sublist _)))
                  refine ⟨hS189, ?_⟩
                  refine rh_v 8 rfl (by kernel_rfl) rfl rfl rfl hS189 (fun _ hS => ov_pick_t rfl rfl rfl) ?_
                  refine rh_any1 9 (by kernel_rfl) ?_
                  refine rc_op rfl rfl (ow_storeW rfl rfl (by kernel_rfl) hO9 2 rfl rfl (by rfl) rfl (by rfl)) ?_
                  rintro _ w190 ⟨rfl, hO191, hs192⟩
                  have hS193 : Own B w0 w190 ([some (lch b16 34 (ghL (X.mark m (dp p)) L))]) := by exact hO191.sub (.cons _ (.cons_cons _ (List.nil_sublist _)))
                  refine ⟨hS193, ?_⟩
                  refine rh_v 10 rfl (by kernel_rfl) rfl rfl rfl hS193 (fun _ hS => ov_assign rfl rfl) ?_
                  refine rh_done (by kernel_rfl) ?_
                  refine run_ret Try.func34 (resW2 Try.results34 rfl rfl Try.underlying34 rfl (by kernel_rfl) hO191 2 rfl) ?_
                  exact ⟨T, L, by rw [hd], by rw [hd]; exact hI2, by rw [hd]; exact (HAt.puts [cv, some (lch b16 34 (ghL (X.mark m (dp p)) L)), some (lch b6 34 (ghL (X.mark m (dp p)) L)), some (lch b5 28 (actL k a b m (dq q) (dp p) n)), some (lch b4 34 (ghL X K))] hO191 hK6 hP6).sheds (List.sublist_append_right _ _)⟩
                ·exfalso; exact qn e9
               ·refine run_region <| rl_v rfl rfl rfl (ov_eql rfl rfl rfl) <| rl_v rfl rfl rfl (ov_assign rfl rfl) <| rl_nil ?_
                first | refine run_cond_dec rfl (fun e10 => ?_) (fun n10 => ?_) | refine run_cond rfl (fun e10 => ?_) (fun n10 => ?_)
                ·refine run_seq <| run_region <| rl_v rfl rfl rfl (ov_loadW rfl Try.underlying34 rfl (by kernel_rfl) rfl (hA.own) 2 rfl) ?_
                 refine rl_v rfl rfl rfl (ov_fieldS rfl Try.underlying28 rfl (fo := 3) rfl (by kernel_rfl) rfl) ?_
                 refine rl_v rfl rfl rfl (ov_load rfl Try.underlying3 rfl rfl (by exact (show _ = some (iv m) from hA.own.cellL 1 rfl (off := 3) rfl))) ?_
                 refine rl_v rfl rfl rfl (ov_fieldS rfl Try.underlying28 rfl (fo := 5) rfl (by kernel_rfl) rfl) ?_
                 refine rl_v rfl rfl rfl (ov_load rfl Try.underlying2 rfl rfl (by exact (show _ = some (iv (dp p)) from hA.own.cellL 1 rfl (off := 5) rfl))) ?_
                 refine rl_call callable_79 rfl rfl rfl rfl rfl rfl (rMark hA hI hs3 hX hj m (dp p)) (fun e194 w195 hp196 => ?_)
                 obtain ⟨T, L, rfl, hI2, hH2⟩ := hp196
                 refine ⟨_, rfl, ?_⟩
                 obtain ⟨K2, N2, hO4, hK2, hP2⟩ := HAt.pull [some (lch b6 34 ghz), some (lch b5 28 (actL k a b m (dq q) (dp p) n)), some (lch b4 34 (ghL X K))] T hH2
                 refine rl_v rfl rfl rfl (ov_move rfl rfl) <| rl_v rfl rfl rfl (ov_extract rfl rfl (by rfl)) ?_
                 refine rl_v rfl rfl rfl (ov_extract rfl rfl (by rfl)) ?_
                 refine rl_ow rfl (ow_alloc _ rfl rfl rfl zero_34 rfl hO4) ?_
                 rintro _ w197 ⟨b16, rfl, hO198, hs199⟩
                 refine rl_ow rfl (ow_storeW rfl rfl (by kernel_rfl) hO198 0 rfl rfl (by rfl) rfl (by rfl)) ?_
                 rintro _ w200 ⟨rfl, hO201, hs202⟩
                 have hA2 : HAt B w0 w200 hb X Pl ([some (lch b16 34 (ghL (X.mark m (dp p)) L)), some (lch b6 34 ghz), some (lch b5 28 (actL k a b m (dq q) (dp p) n)), some (lch b4 34 (ghL X K))] ++ (T ++ R)) := HAt.puts [some (lch b16 34 (ghL (X.mark m (dp p)) L)), some (lch b6 34 ghz), some (lch b5 28 (actL k a b m (dq q) (dp p) n)), some (lch b4 34 (ghL X K))] hO201 hK2 hP2
                 refine rl_v rfl rfl rfl (ov_assign rfl rfl) <| rl_nil <| run_seq <| run_region <| rl_v rfl rfl rfl (ov_move rfl rfl) <| rl_v rfl rfl rfl (ov_fieldS rfl Try.underlying28 rfl (fo := 3) rfl (by kernel_rfl) rfl) ?_
                 refine rl_v rfl rfl rfl (ov_load rfl Try.underlying3 rfl rfl (by exact (show _ = some (iv m) from hA2.own.cellL 2 rfl (off := 3) rfl))) ?_
                 refine rl_v rfl rfl rfl (ov_fieldS rfl Try.underlying28 rfl (fo := 5) rfl (by kernel_rfl) rfl) ?_
                 refine rl_v rfl rfl rfl (ov_load rfl Try.underlying2 rfl rfl (by exact (show _ = some (iv (dp p)) from hA2.own.cellL 2 rfl (off := 5) rfl))) ?_
                 refine rl_call callable_22 rfl rfl rfl rfl rfl rfl (mark_l hb B X Pl _ w0 w200 hA2 hG m (dp p)) (fun e203 w204 hp205 => ?_)
                 obtain ⟨v, cv, l, rfl, ⟨hl, hrv, hlv⟩, hA3⟩ := hp205
                 refine ⟨_, rfl, ?_⟩
                 obtain ⟨va, vp, rfl⟩ := hrv.val
                 have hd := X.dst9 (a := a) (b := b) (m := m) (q := q) (p := p) (n := n) (.inr e10)
                 refine rl_v rfl rfl rfl (ov_move rfl rfl) <| rl_v rfl rfl rfl (ov_extract rfl rfl (by rfl)) ?_
                 refine rl_v rfl rfl rfl (ov_extract rfl rfl (by rfl)) ?_
                 refine rl_v rfl rfl rfl (ov_assign rfl rfl) <| rl_v rfl rfl rfl (ov_assign rfl rfl) <| rl_nil <| run_seq <| run_region <| rl_v rfl rfl rfl (ov_assign rfl rfl) <| rl_nil <| run_seq <| run_seq <| run_region <| rl_v rfl rfl rfl (ov_move rfl rfl) <| rl_v rfl rfl rfl (ov_eql rfl rfl rfl) <| rl_nil ?_
                 first | refine run_cond_dec rfl (fun f0 => ?_) (fun f0 => ?_) | refine run_cond rfl (fun f0 => ?_) (fun f0 => ?_)
                 ·have hXm := hX.mark (by omega) m (dp p) (dp_rng p)
                  have hmm : (X.mark m (dp p)).mem = X.mem := congrArg Prod.fst (mar_mem X m (dp p))
                  have hmk : (X.mark m (dp p)).cls (X.mark m (dp p)).mem = l := by rw [hmm, hl]; exact (if_pos f0).symm
                  refine run_region <| rl_v rfl rfl rfl (ov_loadW rfl Try.underlying34 rfl (by kernel_rfl) rfl (hA3.own) 1 rfl) ?_
                  refine rl_call callable_80 rfl rfl rfl rfl rfl rfl (rCallsL L hA3 hI2 (sub5 hs) (hXm.gg (by omega)) l hmk) (fun e206 w207 hp208 => ?_)
                  obtain ⟨c2, ⟨v2, rfl, hr2⟩, hA5⟩ := hp208
                  refine ⟨_, rfl, ?_⟩
                  obtain ⟨va2, vp2, rfl⟩ := hr2.val
                  obtain ⟨K5, N5, hO7, hK5, hP5⟩ := HAt.pull [c2, cv, some (lch b16 34 (ghL (X.mark m (dp p)) L)), some (lch b6 34 ghz), some (lch b5 28 (actL k a b m (dq q) (dp p) n)), some (lch b4 34 (ghL X K))] [] hA5
                  refine rl_v rfl rfl rfl (ov_assign rfl rfl) <| rl_nil <| run_seq <| run_held (fun w' => Own B w0 w' ([some (lch b16 34 (ghL (X.mark m (dp p)) L))])) mixed ?_
                  have hO210 := hO7.drew
                  generalize World.drew w207 = w209 at hO210 ⊢
                  have hS211 : Own B w0 w209 ([some (lch b16 34 (ghL (X.mark m (dp p)) L))]) := by exact hO210.sub (.cons _ (.cons _ (.cons_cons _ (List.nil_sublist _))))
                  refine rh_v 0 rfl (by kernel_rfl) rfl rfl rfl hS211 (fun _ hS => ov_loadW rfl Try.underlying34 rfl (by kernel_rfl) rfl hS 0 rfl) ?_
                  refine rh_v 1 rfl (by kernel_rfl) rfl rfl rfl hS211 (fun _ hS => ov_move rfl rfl) ?_
                  refine rh_v 2 rfl (by kernel_rfl) rfl rfl rfl hS211 (fun _ hS => ov_move rfl rfl) ?_
                  refine rh_v 3 rfl (by kernel_rfl) rfl rfl rfl hS211 (fun _ hS => ov_eql rfl rfl rfl) ?_
                  refine rh_v 4 rfl (by kernel_rfl) rfl rfl rfl hS211 (fun _ hS => ov_move rfl rfl) ?_
                  first | refine rh_yesD 222 rfl (rfl) ?_ | refine rh_yes 222 rfl (rfl) ?_
                  refine rh_gv 5 rfl (by kernel_rfl) rfl rfl rfl rfl rfl hS211 (fun _ hS => ov_move rfl rfl) ?_
                  refine rh_gv 6 rfl (by kernel_rfl) rfl rfl rfl rfl rfl hS211 (fun _ hS => ov_move rfl rfl) ?_
                  refine rh_any1 7 (by kernel_rfl) ?_
                  refine rc_gop rfl rfl rfl rfl (ow_call2 callable_81 rfl rfl rfl rfl rfl (rInts (HAt.puts [c2, cv, some (lch b16 34 (ghL (X.mark m (dp p)) L)), some (lch b6 34 ghz), some (lch b5 28 (actL k a b m (dq q) (dp p) n)), some (lch b4 34 (ghL X K))] hO210 hK5 hP5) (srcRow hrv (k := 1) rfl) (srcRow hr2 (k := 0) rfl) (fun _ _ _ => rfl) (by omega)) (by intro e w' hp; obtain ⟨rfl, hA6⟩ := hp; exact ⟨_, rfl⟩)) ?_
                  rintro _ w214 ⟨_, v212, he215, rfl, hp213⟩
                  obtain ⟨rfl, hA6⟩ := hp213
                  injection he215 with he215; subst he215
                  obtain ⟨K6, N6, hO9, hK6, hP6⟩ := HAt.pull [c2, cv, some (lch b16 34 (ghL (X.mark m (dp p)) L)), some (lch b6 34 ghz), some (lch b5 28 (actL k a b m (dq q) (dp p) n)), some (lch b4 34 (ghL X K))] [] hA6
                  have hS216 : Own B w0 w214 ([some (lch b16 34 (ghL (X.mark m (dp p)) L))]) := by exact hO9.sub (.cons _ (.cons _ (.cons_cons _ (List.nil_sublist _))))
                  refine ⟨hS216, ?_⟩
                  refine rh_v 8 rfl (by kernel_rfl) rfl rfl rfl hS216 (fun _ hS => ov_pick_t rfl rfl rfl) ?_
                  refine rh_any1 9 (by kernel_rfl) ?_
                  refine rc_op rfl rfl (ow_storeW rfl rfl (by kernel_rfl) hO9 3 rfl rfl (by rfl) rfl (by rfl)) ?_
                  rintro _ w217 ⟨rfl, hO218, hs219⟩
                  have hS220 : Own B w0 w217 ([some (lch b16 34 (ghL (X.mark m (dp p)) L))]) := by exact hO218.sub (.cons _ (.cons _ (.cons_cons _ (List.nil_sublist _))))
                  refine ⟨hS220, ?_⟩
                  refine rh_v 10 rfl (by kernel_rfl) rfl rfl rfl hS220 (fun _ hS => ov_assign rfl rfl) ?_
                  refine rh_done (by kernel_rfl) ?_
                  refine run_ret Try.func34 (resW2 Try.results34 rfl rfl Try.underlying34 rfl (by kernel_rfl) hO218 3 rfl) ?_
                  exact ⟨T, L, by rw [hd], by rw [hd]; exact hI2, by rw [hd]; exact (HAt.puts [c2, cv, some (lch b16 34 (ghL (X.mark m (dp p)) L)), some (lch b6 34 (ghL (X.mark m (dp p)) L)), some (lch b5 28 (actL k a b m (dq q) (dp p) n)), some (lch b4 34 (ghL X K))] hO218 hK6 hP6).sheds (List.sublist_append_right _ _)⟩
                 ·obtain rfl : l = [] := hl.trans (if_neg f0)
                  obtain ⟨K5, N5, hO8, hK5, hP5⟩ := HAt.pull [cv, some (lch b16 34 (ghL (X.mark m (dp p)) L)), some (lch b6 34 ghz), some (lch b5 28 (actL k a b m (dq q) (dp p) n)), some (lch b4 34 (ghL X K))] [] hA3
                  refine run_skip <| run_seq <| run_held (fun w' => Own B w0 w' ([some (lch b16 34 (ghL (X.mark m (dp p)) L))])) mixed ?_
                  have hO222 := hO8.drew
                  generalize World.drew w204 = w221 at hO222 ⊢
                  have hS223 : Own B w0 w221 ([some (lch b16 34 (ghL (X.mark m (dp p)) L))]) := by exact hO222.sub (.cons _ (.cons_cons _ (List.nil_sublist _)))
                  refine rh_v 0 rfl (by kernel_rfl) rfl rfl rfl hS223 (fun _ hS => ov_loadW rfl Try.underlying34 rfl (by kernel_rfl) rfl hS 0 rfl) ?_
                  refine rh_v 1 rfl (by kernel_rfl) rfl rfl rfl hS223 (fun _ hS => ov_move rfl rfl) ?_
                  refine rh_v 2 rfl (by kernel_rfl) rfl rfl rfl hS223 (fun _ hS => ov_move rfl rfl) ?_
                  refine rh_v 3 rfl (by kernel_rfl) rfl rfl rfl hS223 (fun _ hS => ov_eql rfl rfl rfl) ?_
                  refine rh_v 4 rfl (by kernel_rfl) rfl rfl rfl hS223 (fun _ hS => ov_move rfl rfl) ?_
                  first | refine rh_yesD 222 rfl (rfl) ?_ | refine rh_yes 222 rfl (rfl) ?_
                  refine rh_gv 5 rfl (by kernel_rfl) rfl rfl rfl rfl rfl hS223 (fun _ hS => ov_move rfl rfl) ?_
                  refine rh_gv 6 rfl (by kernel_rfl) rfl rfl rfl rfl rfl hS223 (fun _ hS => ov_move rfl rfl) ?_
                  refine rh_any1 7 (by kernel_rfl) ?_
                  refine rc_gop rfl rfl rfl rfl (ow_call2 callable_81 rfl rfl rfl rfl rfl (rInts (HAt.puts [cv, some (lch b16 34 (ghL (X.mark m (dp p)) L)), some (lch b6 34 ghz), some (lch b5 28 (actL k a b m (dq q) (dp p) n)), some (lch b4 34 (ghL X K))] hO222 hK5 hP5) (srcRow hrv (k := 0) rfl) (srcNil _ (fun i => glH [] i)) (fun _ _ _ => rfl) (by decide)) (by intro e w' hp; obtain ⟨rfl, hA6⟩ := hp; exact ⟨_, rfl⟩)) ?_
                  rintro _ w226 ⟨_, v224, he227, rfl, hp225⟩
                  obtain ⟨rfl, hA6⟩ := hp225
                  injection he227 with he227; subst he227
                  obtain ⟨K6, N6, hO9, hK6, hP6⟩ := HAt.pull [cv, some (lch b16 34 (ghL (X.mark m (dp p)) L)), some (lch b6 34 ghz), some (lch b5 28 (actL k a b m (dq q) (dp p) n)), some (lch b4 34 (ghL X K))] [] hA6
                  have hS228 : Own B w0 w226 ([some (lch b16 34 (ghL (X.mark m (dp p)) L))]) := by exact hO9.sub (.cons _ (.cons_cons _ (List.nil_sublist _)))
                  refine ⟨hS228, ?_⟩
                  refine rh_v 8 rfl (by kernel_rfl) rfl rfl rfl hS228 (fun _ hS => ov_pick_t rfl rfl rfl) ?_
                  refine rh_any1 9 (by kernel_rfl) ?_
                  refine rc_op rfl rfl (ow_storeW rfl rfl (by kernel_rfl) hO9 2 rfl rfl (by rfl) rfl (by rfl)) ?_
                  rintro _ w229 ⟨rfl, hO230, hs231⟩
                  have hS232 : Own B w0 w229 ([some (lch b16 34 (ghL (X.mark m (dp p)) L))]) := by exact hO230.sub (.cons _ (.cons_cons _ (List.nil_sublist _)))
                  refine ⟨hS232, ?_⟩
                  refine rh_v 10 rfl (by kernel_rfl) rfl rfl rfl hS232 (fun _ hS => ov_assign rfl rfl) ?_
                  refine rh_done (by kernel_rfl) ?_
                  refine run_ret Try.func34 (resW2 Try.results34 rfl rfl Try.underlying34 rfl (by kernel_rfl) hO230 2 rfl) ?_
                  exact ⟨T, L, by rw [hd], by rw [hd]; exact hI2, by rw [hd]; exact (HAt.puts [cv, some (lch b16 34 (ghL (X.mark m (dp p)) L)), some (lch b6 34 (ghL (X.mark m (dp p)) L)), some (lch b5 28 (actL k a b m (dq q) (dp p) n)), some (lch b4 34 (ghL X K))] hO230 hK6 hP6).sheds (List.sublist_append_right _ _)⟩
                ·obtain ⟨z1, z2, z3, z4, z5, hz⟩ := loss5 X a
                 refine run_seq <| run_region <| rl_v rfl rfl rfl (ov_loadW rfl Try.underlying34 rfl (by kernel_rfl) rfl (hA.own) 2 rfl) ?_
                 refine rl_v rfl rfl rfl (ov_fieldS rfl Try.underlying28 rfl (fo := 1) rfl (by kernel_rfl) rfl) ?_
                 refine rl_v rfl rfl rfl (ov_load rfl Try.underlying3 rfl rfl (by exact (show _ = some (iv a) from hA.own.cellL 1 rfl (off := 1) rfl))) ?_
                 refine rl_call callable_82 rfl rfl rfl rfl rfl rfl (rDefaultL hA hI hs3 hX hj hm20 a _ hz) (fun e233 w234 hp235 => ?_)
                 obtain ⟨T, L, rfl, hI2, hH2⟩ := hp235
                 refine ⟨_, rfl, ?_⟩
                 obtain ⟨K2, N2, hO4, hK2, hP2⟩ := HAt.pull [some (lch b6 34 ghz), some (lch b5 28 (actL k a b m (dq q) (dp p) n)), some (lch b4 34 (ghL X K))] T hH2
                 refine rl_v rfl rfl rfl (ov_move rfl rfl) <| rl_v rfl rfl rfl (ov_extract rfl rfl (by rfl)) ?_
                 refine rl_v rfl rfl rfl (ov_extract rfl rfl (by rfl)) ?_
                 refine rl_v rfl rfl rfl (ov_extract rfl rfl (by rfl)) ?_
                 refine rl_ow rfl (ow_alloc _ rfl rfl rfl zero_34 rfl hO4) ?_
                 rintro _ w236 ⟨b21, rfl, hO237, hs238⟩
                 refine rl_ow rfl (ow_alloc _ rfl rfl rfl zero_152 rfl hO237) ?_
                 rintro _ w239 ⟨b22, rfl, hO240, hs241⟩
                 refine rl_ow rfl (ow_storeW rfl rfl (by kernel_rfl) hO240 1 rfl rfl (by rfl) rfl (by rfl)) ?_
                 rintro _ w242 ⟨rfl, hO243, hs244⟩
                 refine rl_ow rfl (ow_storeW rfl rfl (by kernel_rfl) hO243 0 rfl rfl (by rfl) rfl (by rfl)) ?_
                 rintro _ w245 ⟨rfl, hO246, hs247⟩
                 have hA2 : HAt B w0 w245 hb X Pl ([some (lch b22 152 (lossV [z1, z2, z3, z4, z5])), some (lch b21 34 (ghL (X.dflt a) L)), some (lch b6 34 ghz), some (lch b5 28 (actL k a b m (dq q) (dp p) n)), some (lch b4 34 (ghL X K))] ++ (T ++ R)) := HAt.puts [some (lch b22 152 (lossV [z1, z2, z3, z4, z5])), some (lch b21 34 (ghL (X.dflt a) L)), some (lch b6 34 ghz), some (lch b5 28 (actL k a b m (dq q) (dp p) n)), some (lch b4 34 (ghL X K))] hO246 hK2 hP2
                 refine rl_v rfl rfl rfl (ov_assign rfl rfl) <| rl_nil <| run_seq <| run_region <| rl_v rfl rfl rfl (ov_move rfl rfl) <| rl_v rfl rfl rfl (ov_fieldS rfl Try.underlying28 rfl (fo := 1) rfl (by kernel_rfl) rfl) ?_
                 refine rl_v rfl rfl rfl (ov_load rfl Try.underlying3 rfl rfl (by exact (show _ = some (iv a) from hA2.own.cellL 3 rfl (off := 1) rfl))) ?_
                 refine rl_call callable_29 rfl rfl rfl rfl rfl rfl (default_l hb B X a Pl _ w0 w245 hA2 hG hm20 hX.Z _ hz) (fun e248 w249 hp250 => ?_)
                 obtain ⟨rfl, hA3⟩ := hp250
                 refine ⟨_, rfl, ?_⟩
                 obtain ⟨K3, N3, hO5, hK3, hP3⟩ := HAt.pull [some (lch b22 152 (lossV [z1, z2, z3, z4, z5])), some (lch b21 34 (ghL (X.dflt a) L)), some (lch b6 34 ghz), some (lch b5 28 (actL k a b m (dq q) (dp p) n)), some (lch b4 34 (ghL X K))] [] hA3
                 refine rl_v rfl rfl rfl (ov_move rfl rfl) <| rl_v rfl rfl rfl (ov_extract rfl rfl (by rfl)) ?_
                 refine rl_v rfl rfl rfl (ov_extract rfl rfl (by rfl)) ?_
                 refine rl_ow rfl (ow_alloc _ rfl rfl rfl zero_60 rfl hO5) ?_
                 rintro _ w251 ⟨b24, rfl, hO252, hs253⟩
                 refine rl_ow rfl (ow_storeW rfl rfl (by kernel_rfl) hO252 0 rfl rfl (by rfl) rfl (by rfl)) ?_
                 rintro _ w254 ⟨rfl, hO255, hs256⟩
                 refine rl_v rfl rfl rfl (ov_assign rfl rfl) <| rl_nil <| run_seq <| run_held (fun w' => Own B w0 w' ([some (lch b24 60 (lossV [z1, z2, z3, z4, z5])), some (lch b22 152 (lossV [z1, z2, z3, z4, z5])), some (lch b21 34 (ghL (X.dflt a) L))])) mixed ?_
                 have hO258 := hO255.drew
                 generalize World.drew w254 = w257 at hO258 ⊢
                 have hS259 : Own B w0 w257 ([some (lch b24 60 (lossV [z1, z2, z3, z4, z5])), some (lch b22 152 (lossV [z1, z2, z3, z4, z5])), some (lch b21 34 (ghL (X.dflt a) L))]) := by exact hO258.sub (.cons_cons _ (.cons_cons _ (.cons_cons _ (List.nil_sublist _))))
                 refine rh_v 0 rfl (by kernel_rfl) rfl rfl rfl hS259 (fun _ hS => ov_loadW rfl Try.underlying34 rfl (by kernel_rfl) rfl hS 2 rfl) ?_
                 refine rh_v 1 rfl (by kernel_rfl) rfl rfl rfl hS259 (fun _ hS => ov_move rfl rfl) ?_
                 refine rh_v 2 rfl (by kernel_rfl) rfl rfl rfl hS259 (fun _ hS => ov_move rfl rfl) ?_
                 refine rh_v 3 rfl (by kernel_rfl) rfl rfl rfl hS259 (fun _ hS => ov_eql rfl rfl rfl) ?_
                 refine rh_v 4 rfl (by kernel_rfl) rfl rfl rfl hS259 (fun _ hS => ov_move rfl rfl) ?_
                 first | refine rh_yesD 73 rfl (rfl) ?_ | refine rh_yes 73 rfl (rfl) ?_
                 refine rh_gv 5 rfl (by kernel_rfl) rfl rfl rfl rfl rfl hS259 (fun _ hS => ov_loadW rfl Try.underlying60 rfl (by kernel_rfl) rfl hS 0 rfl) ?_
                 refine rh_gv 6 rfl (by kernel_rfl) rfl rfl rfl rfl rfl hS259 (fun _ hS => ov_loadW rfl Try.underlying152 rfl (by kernel_rfl) rfl hS 1 rfl) ?_
                 refine rh_gv 7 rfl (by kernel_rfl) rfl rfl rfl rfl rfl hS259 (fun _ hS => ov_eqlL5 (a := z1) (b := z2) (c := z3) (d := z4) (e := z5) rfl rfl rfl) ?_
                 refine rh_v 8 rfl (by kernel_rfl) rfl rfl rfl hS259 (fun _ hS => ov_pick_t rfl rfl rfl) ?_
                 refine rh_any1 9 (by kernel_rfl) ?_
                 refine rc_op rfl rfl (ow_storeW rfl rfl (by kernel_rfl) hO258 3 rfl rfl (by rfl) rfl (by rfl)) ?_
                 rintro _ w260 ⟨rfl, hO261, hs262⟩
                 have hS263 : Own B w0 w260 ([some (lch b24 60 (lossV [z1, z2, z3, z4, z5])), some (lch b22 152 (lossV [z1, z2, z3, z4, z5])), some (lch b21 34 (ghL (X.dflt a) L))]) := by exact hO261.sub (.cons_cons _ (.cons_cons _ (.cons_cons _ (List.nil_sublist _))))
                 refine ⟨hS263, ?_⟩
                 have hd := X.dstD (a := a) (b := b) (m := m) (q := q) (p := p) (n := n) hx.1 (by omega)
                 refine rh_v 10 rfl (by kernel_rfl) rfl rfl rfl hS263 (fun _ hS => ov_assign rfl rfl) ?_
                 refine rh_done (by kernel_rfl) ?_
                 refine run_ret Try.func34 (resW2 Try.results34 rfl rfl Try.underlying34 rfl (by kernel_rfl) hO261 3 rfl) ?_
                 exact ⟨T, L, by rw [hd], by rw [hd]; exact hI2, by rw [hd]; exact (HAt.puts [some (lch b24 60 (lossV [z1, z2, z3, z4, z5])), some (lch b22 152 (lossV [z1, z2, z3, z4, z5])), some (lch b21 34 (ghL (X.dflt a) L)), some (lch b6 34 (ghL (X.dflt a) L)), some (lch b5 28 (actL k a b m (dq q) (dp p) n)), some (lch b4 34 (ghL X K))] hO261 hK3 hP3).sheds (List.sublist_append_right _ _)⟩
     ·intro E Y T L w24 hJw24
      obtain ⟨hY, hIY, hHY⟩ := hJw24
      show Run _ _ _ _ [(8, _), (9, _), (4, _), (6, _)] _ _
      subst hY
      obtain ⟨K9, N9, hO10, hK9, hP9⟩ := HAt.pull [some (lch b6 34 ghz), some (lch b5 28 (actL k a b m (dq q) (dp p) n)), some (lch b4 34 (ghL (X.dstep (IntKind.u64.wrap k % 12) a b m q p n) L))] [] hHY
      refine run_seq <| run_region <| rl_v rfl rfl rfl (ov_loadW rfl Try.underlying34 rfl (by kernel_rfl) rfl hO10 2 rfl) ?_
      refine rl_v rfl rfl rfl (ov_move rfl rfl) <| rl_v rfl rfl rfl (ov_move rfl rfl) <| rl_v rfl rfl rfl (ov_eql rfl rfl rfl) <| rl_ow rfl (ow_storeW rfl rfl (by kernel_rfl) hO10 0 rfl rfl (by rfl) rfl (by rfl)) ?_
      rintro _ w264 ⟨rfl, hO265, hs266⟩
      refine rl_v rfl rfl rfl (ov_assign rfl rfl) <| rl_nil <| run_ret Try.func34 (resW2 Try.results34 rfl rfl Try.underlying34 rfl (by kernel_rfl) hO265 0 rfl) ?_
      exact ⟨T, L, by simp, hIY, (HAt.puts [some (lch b6 34 (ghL (X.dstep (IntKind.u64.wrap k % 12) a b m q p n) L)), some (lch b5 28 (actL k a b m (dq q) (dp p) n)), some (lch b4 34 (ghL (X.dstep (IntKind.u64.wrap k % 12) a b m q p n) L))] hO265 hK9 hP9).sheds (List.sublist_append_right _ _)⟩
end Go.Proofs.Ytfbbagnpdfafjaa
