import Derived.Test.YtfbbagnpdfafjaaHdB
set_option maxRecDepth 100000
namespace Go.Proofs.Ytfbbagnpdfafjaa
open Go.RowKit Go.Proofs
structure Same (X Y : HM) : Prop where
 dim : X.dim = Y.dim
 k : X.k = Y.k
 mv : X.mv = Y.mv
 rate : X.rate = Y.rate
theorem Same.trans {X Y Z : HM} (h : Same X Y) (g : Same Y Z) : Same X Z := ⟨h.dim.trans g.dim, h.k.trans g.k, h.mv.trans g.mv, h.rate.trans g.rate⟩
theorem Same.refl (X : HM) : Same X X := ⟨rfl, rfl, rfl, rfl⟩
theorem dstep_same (X : HM) (k a b m q p n : Int) : Same (X.dstep k a b m q p n) X := by
 refine ⟨dstep_dim X k a b m q p n, ?_, ?_, ?_⟩ <;>
 ·unfold HM.dstep
  split
  ·unfold HM.deposit; split <;> rfl
  ·split
   ·unfold HM.spent; split <;> rfl
   ·split
    ·unfold HM.contrib; split <;> rfl
    ·split
     ·unfold HM.trade; split <;> rfl
     ·split
      ·unfold HM.deliver; split <;> rfl
      ·split
       ·unfold HM.mark; split <;> rfl
       ·unfold HM.dflt
        split
        ·split
         ·rw [d7_eq]
         ·rfl
        ·rfl
def Low (j : Nat) (X : HM) : Prop := ∀ i : Int, 0 ≤ i → i < X.mem → -(10000000 * (j : Int)) ≤ (X.ac i).cash
theorem Low.mono {j k : Nat} {X : HM} (h : Low j X) (hj : j ≤ k) : Low k X := fun i i0 i1 => by have := h i i0 i1; omega
theorem Low.set {j : Nat} {X : HM} (h : Low j X) (i : Int) {a : HA} (ha : -(10000000 * ((j + 1 : Nat) : Int)) ≤ a.cash) : Low (j + 1) (X.setA i a) := fun l l0 l1 => by
 show _ ≤ (upd X.ac (i - 1) a l).cash
 have h1 : -(10000000 * (j : Int)) ≤ (X.ac l).cash := h l l0 l1
 unfold upd
 split
 ·exact ha
 ·omega
theorem Low.dstep {j : Nat} {X : HM} (hX : HB j X) (h : Low j X) (hj : j ≤ 100) (k a b m q p n : Int) : Low (j + 1) (X.dstep k a b m q p n) := by
 have hn : Low (j + 1) X := h.mono (Nat.le_succ j)
 unfold HM.dstep
 split
 ·unfold HM.deposit
  split
  ·rename_i e
   obtain ⟨h1, a0, a1⟩ := mny_zero e
   obtain ⟨hi, ho⟩ := act_zero h1
   have := h (a - 1) (by omega) (by omega)
   exact h.set a (by show _ ≤ (X.ac (a - 1)).cash + n; omega)
  ·exact hn
 ·split
  ·unfold HM.spent
   split
   ·rename_i e
    obtain ⟨h0, h01, _⟩ := spd_zero e
    exact h.set a (by show _ ≤ (X.acct a).cash - n; omega)
   ·exact hn
  ·split
   ·unfold HM.contrib
    split
    ·rename_i e
     obtain ⟨h0, h01, _⟩ := spd_zero e
     exact h.set a (by show _ ≤ (X.acct a).cash - n; omega)
    ·exact hn
   ·split
    ·unfold HM.trade
     split
     ·rename_i e
      unfold HM.trd at e
      split at e
      ·exact absurd e ‹_›
      ·have hP := par_zero (X := X) (c := ⟨a, b, m, dq q, dp p⟩) (by omega)
       have hb := hP.b
       have hs := hP.s
       have hm : 0 ≤ m ∧ m < X.mo := hP.m
       have hq : 1 ≤ dq q ∧ dq q ≤ 1000000 := hP.q
       have hp : 1 ≤ dp p ∧ dp p ≤ 1000000 := hP.p
       have h1 := dq_rng q
       have h2 := dp_rng p
       have hpr := hX.pr m hm.1 hm.2
       have hdue := mulAbs (a := dq q) (b := X.pr m - dp p) (A := 100) (B := 1000) (by omega) (by omega)
       have hd : (X.due ⟨a, b, m, dq q, dp p⟩).natAbs ≤ 100 * 1000 := hdue
       change 1 ≤ a ∧ a ≤ X.mem at hb
       change 1 ≤ b ∧ b ≤ X.mem at hs
       have hA := h (a - 1) (by omega) (by omega)
       have hC := h (b - 1) (by omega) (by omega)
       intro l l0 l1
       show _ ≤ (upd (upd X.ac (a - 1) (X.newB ⟨a, b, m, dq q, dp p⟩)) (b - 1) (X.newS ⟨a, b, m, dq q, dp p⟩) l).cash
       have hl : -(10000000 * (j : Int)) ≤ (X.ac l).cash := h l l0 l1
       unfold upd
       split
       ·show _ ≤ (X.ac (b - 1)).cash - X.due ⟨a, b, m, dq q, dp p⟩
        omega
       ·split
        ·show _ ≤ (X.ac (a - 1)).cash + X.due ⟨a, b, m, dq q, dp p⟩
         omega
        ·omega
     ·exact hn
    ·split
     ·unfold HM.deliver
      split
      ·rename_i e
       obtain ⟨hP, _, _⟩ := dvr_zero e
       have hb := hP.b
       have hs := hP.s
       change 1 ≤ a ∧ a ≤ X.mem at hb
       change 1 ≤ b ∧ b ≤ X.mem at hs
       have hA := h (a - 1) (by omega) (by omega)
       have hC := h (b - 1) (by omega) (by omega)
       intro l l0 l1
       show _ ≤ (upd (upd X.ac (a - 1) (X.dvB ⟨a, b, m, dq q, 1⟩)) (b - 1) (X.dvS ⟨a, b, m, dq q, 1⟩) l).cash
       have hl : -(10000000 * (j : Int)) ≤ (X.ac l).cash := h l l0 l1
       unfold upd
       split
       ·show _ ≤ (X.ac (b - 1)).cash
        omega
       ·split
        ·show _ ≤ (X.ac (a - 1)).cash
         omega
        ·omega
      ·exact hn
     ·split
      ·unfold HM.mark
       split
       ·rename_i e
        obtain ⟨m0, m1, p0, p1⟩ := mrk_zero e
        have hmo := hX.mo
        have hpr := hX.pr m m0 m1
        have h2 := dp_rng p
        intro l l0 l1
        have hl : -(10000000 * (j : Int)) ≤ (X.ac l).cash := h l l0 l1
        have h4 := hX.pos l l0 l1 m m0 (by omega)
        have h3 := mulAbs (a := (X.ac l).pos m) (b := dp p - X.pr m) (A := 10000) (B := 1000) (by omega) (by omega)
        show _ ≤ (X.ac l).cash + (X.ac l).pos m * (dp p - X.pr m)
        omega
       ·exact hn
      ·by_cases ha : X.act a = 0
       ·obtain ⟨lo, lc, lf, lg, lh, _, hF⟩ := dflt_fell hX ha
        have hdm : (X.dflt a).mem = X.mem := congrArg Prod.fst (dfl_mem X a)
        intro l l0 l1
        rw [hdm] at l1
        have hl : -(10000000 * (j : Int)) ≤ (X.ac l).cash := h l l0 l1
        by_cases e : l = a - 1
        ·have := hF.own.2.1
         change ((X.dflt a).ac (a - 1)).cash = _ at this
         rw [e, this]
         omega
        ·have := hF.oth l l0 l1 e
         omega
       ·have e : X.dflt a = X := if_neg ha
        rw [e]
        exact hn
theorem ov_ptrne {N : Nat} {o : Oper} {F : Fr} {w : World} {T U E : TypeId} {x : Operand} {ad : Option Addr} (ho : o.op = .binOp .neq T x (.const (.pointer none)) U) (hT : Try.prog.underlying T = some (.pointer E)) (hx : Fr.ev F x = some (.pointer ad)) : OpV Try.prog N o F w (.bool (!ad.isNone)) := by
 intro a ha
 have hn : a.eval (.const (.pointer none)) = .pointer none := rfl
 have h0 : (Op.equal T (.pointer ad) (.pointer none)).run Try.prog w = .ok ad.isNone w := by
  unfold Op.equal Op.maxDepth Op.equalIn
  rw [Sem.run_bind, run_underlying hT]
  cases ad <;> simp [Result.andThen]
 unfold execOp
 simp only [ho, ha.ev hx, hn, Sem.run_bind, eqGuard]
 simp [binOp, h0, Result.andThen]
set_option maxHeartbeats 2000000 in
theorem run_any (mem mon : Int) (pa2 ma2 la : Option Addr) (pc2 k2 mc2 ln lc : Nat) (P : Int → Int) (F : Int → Int → Int) (rate cap most : Int) (S : HActs) (N : List (Option Blk)) (B : Nat) (H : List (Option Blk)) (w0 w : World) (hO : Own B w0 w H) (hsN : N.Sublist H) (hC : TameC N mem mon pa2 ma2 pc2 k2 mc2 P F rate cap) (hS : SAt B w0 la 7 ln S.l) (hmost : 0 ≤ most ∧ most ≤ 50) :
  Calls Try.prog 16 #[.agg (cfL mem mon pa2 mon.toNat pc2 ma2 k2 mc2 rate cap).toArray, .slice la ln lc, iv most] w fun e w' => ∃ hb X T L, e = .returned (.tuple #[ptr hb, .agg (ghL X L).toArray]) ∧ (HB 50 X ∧ Same X (HM.new mem mon k2 P F rate cap) ∧ Low 50 X) ∧ GIn (T ++ N) X L ∧ HAt B w0 w' hb X [] (T ++ H) := by
 obtain ⟨lb, loff, hla, hrow⟩ := hS.open (by decide)
 have hmem := hC.hmem
 have hmon := hC.hmon
 have hk := hC.hk
 have hrate := hC.hrate
 have hcap := hC.hcap
 refine calls_of_run (F := [(0, _), (1, _), (2, _)]) Try.func16 rfl Try.ntmps16 rfl rfl <| run_seq <| run_region <| rl_ow rfl (ow_box _ rfl rfl rfl rfl rfl hO) ?_
 rintro _ w1 ⟨b3, rfl, hO2, hs3⟩
 refine rl_v rfl rfl rfl (ov_assign rfl rfl) <| rl_ow rfl (ow_alloc _ rfl rfl rfl zero_34 rfl hO2) ?_
 rintro _ w4 ⟨b7, rfl, hO5, hs6⟩
 refine rl_nil <| run_seq <| run_region <| rl_v rfl rfl rfl (ov_loadW rfl Try.underlying25 rfl (by kernel_rfl) rfl hO5 1 rfl) ?_
 refine rl_call callable_18 rfl rfl rfl rfl rfl rfl (give_any mem mon pa2 ma2 mon.toNat pc2 k2 mc2 rate cap P (fun _ => mon.toNat) F B _ w0 w4 hO5 (CfRd.of_src hC.hpc hC.ps hC.ms (.cons _ (.cons _ hsN)))) (fun e7 w8 hp9 => ?_)
 obtain ⟨pa3, ma3, pc3, mc3, N3, rfl, hN3, hO3⟩ := hp9
 refine ⟨_, rfl, ?_⟩
 have hO4 := hO3.perm (List.perm_append_comm_assoc N3 [_, _] H)
 replace hO4 : Own B w0 w8 (some (lch b7 34 ghz) :: some (lch b3 25 (cfL mem mon pa2 mon.toNat pc2 ma2 k2 mc2 rate cap)) :: (N3 ++ H)) := hO4
 refine rl_call callable_17 rfl rfl rfl rfl rfl rfl (newGood mem mon pa3 ma3 (min mon.toNat 20) pc3 (min k2 66) mc3 rate cap P (fun _ => min mon.toNat 20) F B _ w0 w8 hO4 (hN3.2.1.sub (.cons _ (.cons _ (List.sublist_append_left _ _)))) (hN3.2.2.sub (.cons _ (.cons _ (List.sublist_append_left _ _)))) (by omega) (by omega) hrate (by omega) (by omega) (by omega) (fun _ _ _ => by omega) (fun i i0 i1 => by have := hC.hP i i0 (by omega); omega) (fun i i0 i1 m m0 m1 => by have := hC.hF i i0 (by omega) m m0 (by omega); omega)) (fun e10 w11 hp12 => ?_)
 obtain ⟨hb, rfl, hH0⟩ := hp12
 refine ⟨_, rfl, ?_⟩
 have hk66 : min k2 66 = k2 := by omega
 rw [hk66] at hH0
 obtain ⟨X0, hX0⟩ : ∃ X0, X0 = HM.new mem mon k2 P F rate cap := ⟨_, rfl⟩
 rw [← hX0] at hH0
 have hH1 : HAt B w0 w11 hb X0 [] (some (lch b7 34 ghz) :: some (lch b3 25 (cfL mem mon pa2 mon.toNat pc2 ma2 k2 mc2 rate cap)) :: H) := hH0.sheds (.cons_cons _ (.cons_cons _ (List.sublist_append_right _ _)))
 have hB0 : HB 0 X0 := by rw [hX0]; exact HB.new (by omega) (by omega) (by omega) (fun m m0 m1 => by have := hC.hP m m0 m1; omega) (fun i i0 i1 m m0 m1 => by have := hC.hF i i0 (by omega) m m0 m1; omega) hrate (by omega)
 have hL0 : Low 0 X0 := fun i _ _ => by rw [hX0]; exact Int.le_refl _
 refine rl_v rfl rfl rfl (ov_move rfl rfl) <| rl_v rfl rfl rfl (ov_extract rfl rfl (by rfl)) ?_
 refine rl_v rfl rfl rfl (ov_extract rfl rfl (by rfl)) ?_
 refine rl_v rfl rfl rfl (ov_assign rfl rfl) <| rl_v rfl rfl rfl (ov_assign rfl rfl) <| rl_nil <| run_seq <| run_region <| rl_v rfl rfl rfl (ov_loadW rfl Try.underlying25 rfl (by kernel_rfl) rfl (hH1.own) 1 rfl) ?_
 refine rl_call callable_33 rfl rfl rfl rfl rfl rfl (HAt.refN hH1 (R0 := N) (.cons _ (.cons _ hsN)) (Y := X0) (fun H hO hs => by rw [hX0]; exact gNew_any mem mon pa2 ma2 mon.toNat pc2 k2 mc2 rate cap P (fun _ => mon.toNat) F N B H w0 w11 hO hs hC.ps hC.ms (by omega) (by omega) (by omega) (fun _ _ _ => by omega))) (fun e13 w14 hp15 => ?_)
 obtain ⟨T0, G0, rfl, hI0, hH2⟩ := hp15
 refine ⟨_, rfl, ?_⟩
 obtain ⟨K1, N1, hO6, hK1, hP1⟩ := HAt.pull [some (lch b7 34 ghz), some (lch b3 25 (cfL mem mon pa2 mon.toNat pc2 ma2 k2 mc2 rate cap))] T0 hH2
 refine rl_ow rfl (ow_alloc _ rfl rfl rfl zero_34 rfl hO6) ?_
 rintro _ w16 ⟨b10, rfl, hO17, hs18⟩
 refine rl_ow rfl (ow_storeW rfl rfl (by kernel_rfl) hO17 0 rfl rfl (by rfl) rfl (by rfl)) ?_
 rintro _ w19 ⟨rfl, hO20, hs21⟩
 have hH3 : HAt B w0 w19 hb X0 [] ([some (lch b10 34 (ghL X0 G0)), some (lch b7 34 ghz)] ++ (T0 ++ H)) := (HAt.puts [some (lch b10 34 (ghL X0 G0)), some (lch b7 34 ghz), some (lch b3 25 (cfL mem mon pa2 mon.toNat pc2 ma2 k2 mc2 rate cap))] hO20 hK1 hP1).sheds (.cons_cons _ (.cons_cons _ (.cons _ (.refl _))))
 refine rl_nil <| run_seq <| run_region <| rl_v rfl rfl rfl (ov_move rfl rfl) <| rl_v rfl rfl rfl (ov_eql rfl rfl rfl) <| rl_v rfl rfl rfl (ov_move rfl rfl) ?_
 first | refine rl_yesD 23 rfl (rfl) ?_ | refine rl_yes 23 rfl (rfl) ?_
 refine rl_gv rfl rfl rfl rfl rfl (ov_move rfl rfl) <| rl_gv rfl rfl rfl rfl rfl (ov_ptrne rfl Try.underlying30 rfl) <| rl_v rfl rfl rfl (ov_pick_t rfl rfl rfl) <| rl_v rfl rfl rfl (ov_assign rfl rfl) <| rl_nil <| run_seq <| run_seq <| run_region <| rl_v rfl rfl rfl (ov_assign rfl rfl) <| rl_nil <| run_block <| Run.keep [1, 2, 7, 8, 10, 11, 12] (F' := [(1, _), (2, _), (7, _), (8, _), (10, _), (11, _), (12, _)]) rfl <| run_loop4 (fun (i : Int) (X : HM) (T : List (Option Blk)) (L : GK) => [(12, .int .i64 i), (11, .bool true)]) [1, 2, 7, 8, 10] (fun (i : Int) (X : HM) (T : List (Option Blk)) (L : GK) (w22 : World) => (0 ≤ i ∧ i ≤ most) ∧ HB i.toNat X ∧ (Same X X0 ∧ Low i.toNat X) ∧ GIn (T ++ N) X L ∧ HAt B w0 w22 hb X [] ([some (lch b10 34 (ghL X L)), some (lch b7 34 ghz)] ++ (T ++ H))) (fun (i : Int) (X : HM) (T : List (Option Blk)) (L : GK) => (most - i).toNat) (0) (X0) (T0) (G0) ?_ (And.intro (by exact slot_int rfl (by first | omega)) (And.intro (by rfl) (And.intro rfl (And.intro rfl (And.intro rfl (And.intro rfl (And.intro rfl trivial))))))) ?_
 ·exact ⟨by omega, hB0, ⟨.refl _, hL0⟩, hI0, hH3⟩
 intro i X T L w22 hIw22 ih23
 obtain ⟨hi, hX, ⟨hsm, hlow⟩, hI, hH⟩ := hIw22
 show Run _ _ _ _ [(12, _), (11, _), (1, _), (2, _), (7, _), (8, _), (10, _)] _ _
 refine run_seq <| run_seq <| run_region_join 38 (.bool (decide (i < ln ∧ i < most))) [1, 2, 7, 8, 10, 11, 12] (fun hk24 => ?_) ?_
 ·refine rl_v rfl rfl rfl (ov_move rfl rfl) <| rl_v rfl rfl rfl (ov_move rfl rfl) <| rl_v rfl rfl rfl (ov_len rfl Try.underlying26 rfl) <| rl_v rfl rfl rfl (ov_lss rfl rfl rfl) <| rl_v rfl rfl rfl (ov_move rfl rfl) ?_
  first | refine rl_split_dec 31 rfl (fun j1 => ?_) (fun j1 => ?_) | refine rl_split 31 rfl (fun j1 => ?_) (fun j1 => ?_)
  ·refine rl_gv rfl rfl rfl rfl rfl (ov_move rfl rfl) <| rl_gv rfl rfl rfl rfl rfl (ov_move rfl rfl) <| rl_gv rfl rfl rfl rfl rfl (ov_lss rfl rfl rfl) <| rl_v rfl rfl rfl (ov_pick_t rfl rfl rfl) <| rl_v rfl rfl rfl (ov_move rfl rfl) ?_
   first | refine rl_split_dec 36 rfl (fun j2 => ?_) (fun j2 => ?_) | refine rl_split 36 rfl (fun j2 => ?_) (fun j2 => ?_)
   ·refine rl_gv rfl rfl rfl rfl rfl (ov_move rfl rfl) <| rl_v rfl rfl rfl (ov_pick_t rfl rfl rfl) ?_
    refine rl_nil (hk24 _ (jbt rfl (by omega)) (And.intro rfl (And.intro rfl (And.intro rfl (And.intro rfl (And.intro rfl (And.intro rfl (And.intro rfl trivial))))))))
   ·refine rl_gskip rfl rfl rfl rfl rfl rfl <| rl_v rfl rfl rfl (ov_pick_f rfl rfl rfl) ?_
    refine rl_nil (hk24 _ (jbf rfl (by omega)) (And.intro rfl (And.intro rfl (And.intro rfl (And.intro rfl (And.intro rfl (And.intro rfl (And.intro rfl trivial))))))))
  ·refine rl_gskip rfl rfl rfl rfl rfl rfl <| rl_gskip rfl rfl rfl rfl rfl rfl <| rl_gskip rfl rfl rfl rfl rfl rfl <| rl_v rfl rfl rfl (ov_pick_f rfl rfl rfl) <| rl_v rfl rfl rfl (ov_move rfl rfl) <| rl_gskip rfl rfl rfl rfl rfl rfl <| rl_v rfl rfl rfl (ov_pick_f rfl rfl rfl) ?_
   refine rl_nil (hk24 _ (jbf rfl (by omega)) (And.intro rfl (And.intro rfl (And.intro rfl (And.intro rfl (And.intro rfl (And.intro rfl (And.intro rfl trivial))))))))
 ·show Run _ _ _ _ [(38, _), (1, _), (2, _), (7, _), (8, _), (10, _), (11, _), (12, _)] _ _
  first | refine run_cond_dec rfl (fun h1 => ?_) (fun h1 => ?_) | refine run_cond rfl (fun h1 => ?_) (fun h1 => ?_)
  ·have hXm : X.mem = mem.toNat := by have := congrArg Prod.fst hsm.dim; rw [hX0] at this; exact this
   obtain ⟨K7, N7, hO8, hK7, hP7⟩ := HAt.pull [some (lch b10 34 (ghL X L)), some (lch b7 34 ghz)] [] hH
   refine run_skip <| run_seq <| run_block <| run_held (fun w' => Own B w0 w' ([])) mixed ?_
   have hO28 := hO8.drew
   generalize World.drew w22 = w27 at hO28 ⊢
   have hS29 : Own B w0 w27 ([]) := by exact hO28.sub (List.nil_sublist _)
   refine rh_v 0 rfl (by kernel_rfl) rfl rfl rfl hS29 (fun _ hS => ov_move rfl rfl) ?_
   refine rh_v 2 rfl (by kernel_rfl) rfl rfl rfl hS29 (fun _ hS => ov_move rfl rfl) ?_
   refine rh_v 3 rfl (by kernel_rfl) rfl rfl rfl hS29 (fun _ hS => ov_move rfl rfl) ?_
   refine rh_v 4 rfl (by kernel_rfl) rfl rfl rfl hS29 (fun _ hS => ov_index rfl Try.underlying26 (by kernel_rfl) (s := 7) rfl rfl ⟨by omega, by omega⟩ (by exact (hla (by omega)))) ?_
   refine rh_v 5 rfl (by kernel_rfl) rfl rfl rfl hS29 (fun _ hS => ov_loadE rfl Try.underlying28 rfl (by kernel_rfl) rfl ⟨by omega, by omega⟩ rfl (hrow _ hS.below)) ?_
   refine rh_any1 1 (by kernel_rfl) ?_
   refine rc_op rfl rfl (ow_v rfl rfl (ov_loadW rfl Try.underlying34 rfl (by kernel_rfl) rfl hO28 0 rfl)) ?_
   rintro _ _ ⟨rfl, hw30⟩
   replace hw30 := hw30.symm; subst hw30
   refine ⟨hS29, ?_⟩
   refine rh_any1 6 (by kernel_rfl) ?_
   refine rc_op rfl rfl (ow_call2 callable_34 rfl rfl rfl rfl rfl (do_any hb B X L (S.k i) (S.a i) (S.b i) (S.m i) (S.q i) (S.p i) (S.n i) [] _ (T ++ N) w0 w27 i.toNat (HAt.puts [some (lch b10 34 (ghL X L)), some (lch b7 34 ghz)] hO28 hK7 hP7) hI (.cons _ (.cons _ (List.Sublist.append_left hsN T))) hX (by omega) (by omega)) (by intro e w' hp; obtain ⟨T2, L2, rfl, hI2, hH4⟩ := hp; exact ⟨_, rfl⟩)) ?_
   rintro _ w33 ⟨_, v31, he34, rfl, hp32⟩
   obtain ⟨T2, L2, rfl, hI2, hH4⟩ := hp32
   injection he34 with he34; subst he34
   have hX2 := hX.dstep (by omega) (IntKind.u64.wrap (S.k i) % 12) (S.a i) (S.b i) (S.m i) (S.q i) (S.p i) (S.n i)
   have hlow2 := Low.dstep hX hlow (by omega) (IntKind.u64.wrap (S.k i) % 12) (S.a i) (S.b i) (S.m i) (S.q i) (S.p i) (S.n i)
   have hsm2 := (dstep_same X (IntKind.u64.wrap (S.k i) % 12) (S.a i) (S.b i) (S.m i) (S.q i) (S.p i) (S.n i)).trans hsm
   generalize X.dstep (IntKind.u64.wrap (S.k i) % 12) (S.a i) (S.b i) (S.m i) (S.q i) (S.p i) (S.n i) = Y at *
   obtain ⟨K2, N2, hO7, hK2, hP2⟩ := HAt.pull [some (lch b10 34 (ghL X L)), some (lch b7 34 ghz)] T2 hH4
   have hS35 : Own B w0 w33 ([]) := by exact hO7.sub (List.nil_sublist _)
   refine ⟨hS35, ?_⟩
   refine rh_v 7 rfl (by kernel_rfl) rfl rfl rfl hS35 (fun _ hS => ov_move rfl rfl) ?_
   refine rh_v 8 rfl (by kernel_rfl) rfl rfl rfl hS35 (fun _ hS => ov_extract rfl rfl (by rfl)) ?_
   refine rh_v 9 rfl (by kernel_rfl) rfl rfl rfl hS35 (fun _ hS => ov_extract rfl rfl (by rfl)) ?_
   refine rh_any1 10 (by kernel_rfl) ?_
   refine rc_op rfl rfl (ow_storeW rfl rfl (by kernel_rfl) hO7 0 rfl rfl (by rfl) rfl (by rfl)) ?_
   rintro _ w36 ⟨rfl, hO37, hs38⟩
   have hS39 : Own B w0 w36 ([]) := by exact hO37.sub (List.nil_sublist _)
   refine ⟨hS39, ?_⟩
   have hH5 : HAt B w0 w36 hb Y [] ([some (lch b10 34 (ghL Y L2)), some (lch b7 34 ghz)] ++ (T2 ++ (T ++ H))) := HAt.puts [some (lch b10 34 (ghL Y L2)), some (lch b7 34 ghz)] hO37 hK2 hP2
   refine rh_v 11 rfl (by kernel_rfl) rfl rfl rfl hS39 (fun _ hS => ov_assign rfl rfl) ?_
   refine rh_done (by kernel_rfl) ?_
   refine run_inBlock <| run_region <| rl_v rfl rfl rfl (ov_move rfl rfl) <| rl_v rfl rfl rfl (ov_add rfl rfl rfl (by omega)) ?_
   refine rl_v rfl rfl rfl (ov_assign rfl rfl) <| rl_nil ?_
   refine Run.use (ih23 (i + 1) (Y) (T2 ++ T) (L2) _ ?_ ?_) (And.intro (by exact slot_int rfl (by first | omega)) (And.intro (by rfl) (And.intro rfl (And.intro rfl (And.intro rfl (And.intro rfl (And.intro rfl trivial)))))))
   ·first | omega | (dsimp only; omega)
   ·exact ⟨by omega, by rw [show (i + 1).toNat = i.toNat + 1 by omega]; exact hX2, ⟨hsm2, by rw [show (i + 1).toNat = i.toNat + 1 by omega]; exact hlow2⟩, by rw [List.append_assoc]; exact hI2, by rw [List.append_assoc]; exact hH5⟩
  ·refine run_exit rfl <| run_seq <| run_seq <| run_region <| rl_v rfl rfl rfl (ov_move rfl rfl) <| rl_v rfl rfl rfl (ov_not rfl rfl) <| rl_nil <| run_cond_f rfl ?_
   obtain ⟨K8, N8, hO9, hK8, hP8⟩ := HAt.pull [some (lch b10 34 (ghL X L)), some (lch b7 34 ghz)] [] hH
   refine run_skip <| run_seq <| run_tail 3 mixed (by kernel_rfl) ?_
   have hO41 := hO9.drew
   generalize World.drew w22 = w40 at hO41 ⊢
   refine rt_v rfl rfl rfl (ov_move rfl rfl) <| rt_v rfl rfl rfl (ov_loadW rfl Try.underlying34 rfl (by kernel_rfl) rfl hO41 0 rfl) ?_
   refine rt_v rfl rfl rfl (ov_assign rfl rfl) <| rt_nil <| rl_ow rfl (ow_storeW rfl rfl (by kernel_rfl) hO41 1 rfl rfl (by rfl) rfl (by rfl)) ?_
   rintro _ w42 ⟨rfl, hO43, hs44⟩
   refine rl_nil <| run_ret Try.func16 (resVW Try.results16 rfl rfl Try.underlying34 rfl (by kernel_rfl) hO43 1 rfl) ?_
   exact ⟨hb, X, T, L, rfl, ⟨hX.mono (by omega), by rw [← hX0]; exact hsm, hlow.mono (by omega)⟩, hI, (HAt.puts [some (lch b10 34 (ghL X L)), some (lch b7 34 (ghL X L))] hO43 hK8 hP8).shed.shed⟩
end Go.Proofs.Ytfbbagnpdfafjaa
set_option maxRecDepth 100000
namespace Go.Proofs.Ytfbbagnpdfafjaa
open Go.RowKit Go.Proofs
theorem HOk.more {X : HM} {K : HK} {N M : List (Option Blk)} (h : HOk X K N) (hs : N.Sublist M) : HOk X K M := ⟨h.acc, h.mv.sub hs, h.ct.sub hs, h.cz, h.cc⟩
section
variable {B : Nat} {w0 w : World} {hb hf : Nat} {X Y : HM} {Pl R : List (Option Blk)}
theorem W2H.left (h : W2H B w0 w hb X hf Y Pl R) : ∃ L N, HAt B w0 w hb X N (houB hf (Y.r L) :: L.blk :: R) ∧ HOk Y L N ∧ Pl.Sublist N := by
 obtain ⟨K, L, N, hO, hK, hL, hPl⟩ := h
 exact ⟨L, N, ⟨K, N, hO.perm (.cons _ (.cons _ (perm_in [] [] _ |>.trans (List.perm_append_comm_assoc [_, _] N R)))), hK, .refl _⟩, hL, hPl⟩
theorem W2H.of {N T : List (Option Blk)} {L : HK} (h : HAt B w0 w hb X N (T ++ (houB hf (Y.r L) :: L.blk :: R))) (hL : HOk Y L N) (hPl : Pl.Sublist N) : W2H B w0 w hb X hf Y Pl (T ++ R) := by
 obtain ⟨K, M, hO, hK, hN⟩ := h
 refine ⟨K, L, M, hO.perm (.cons _ (.cons _ ?_)), hK, hL.more hN, hPl.trans hN⟩
 exact (List.Perm.append_left M (List.perm_append_comm_assoc T [_, _] R)).trans (List.perm_append_comm_assoc M [_, _] (T ++ R))
theorem W2H.swap (h : W2H B w0 w hb X hf Y Pl R) : W2H B w0 w hf Y hb X Pl R := by
 obtain ⟨K, L, N, hO, hK, hL, hPl⟩ := h
 exact ⟨L, K, N, hO.perm (List.perm_append_comm_assoc [_, _] [_, _] (N ++ R)), hL, hK, hPl⟩
theorem W2H.own (h : W2H B w0 w hb X hf Y Pl R) : Own B w0 w R := by
 obtain ⟨L, N, hA, _⟩ := h.left
 exact hA.own.tail.tail
end
end Go.Proofs.Ytfbbagnpdfafjaa
set_option maxRecDepth 100000
namespace Go.Proofs.Ytfbbagnpdfafjaa
open Go.RowKit Go.Proofs
theorem mrk_ok {X : HM} {m p : Int} (hm : 0 ≤ m ∧ m < X.mo) (hp : 1 ≤ p ∧ p ≤ 1000000) : X.mrk m p = 0 := by
 unfold HM.mrk
 rw [if_neg (by omega), if_pos hp]
theorem mark_of {X : HM} {m p : Int} (h : X.mrk m p = 0) : X.mark m p = { X with ac := fun j => X.mkA m p (X.ac j), pr := upd X.pr m p } := if_pos h
end Go.Proofs.Ytfbbagnpdfafjaa
set_option maxRecDepth 100000
namespace Go.Proofs.Ytfbbagnpdfafjaa
open Go.RowKit Go.Proofs
theorem lossF_eq (mv : Int → Int → Int) (p : Int → Int) (s : Int) : lossF mv p s = -(sm (fun m => p m * mv s m) 12) := by
 unfold lossF
 rw [sm_congr (g := fun m => (-1) * (p m * mv s m)) fun m _ _ => by omega, sm_mul]
 omega
theorem mxF_add (f g h : Int → Int) : ∀ k : Nat, (∀ i : Int, 0 ≤ i → i < k → h i ≤ f i + g i) → mxF h k ≤ mxF f k + mxF g k
 | 0, _ => Int.le_refl _
 | k + 1, hh => by
  have h1 := mxF_add f g h k fun i i0 i1 => hh i i0 (by omega)
  have h2 := hh k (by omega) (by omega)
  show max (mxF h k) (h k) ≤ max (mxF f k) (f k) + max (mxF g k) (g k)
  omega
theorem marF_add {mv : Int → Int → Int} {k : Nat} {rate : Int} {p q pr : Int → Int} (hr : 0 ≤ rate) (hp : ∀ m : Int, 0 ≤ m → m < 12 → 0 ≤ pr m) : marF mv k rate (fun m => p m + q m) pr ≤ marF mv k rate p pr + marF mv k rate q pr := by
 have h1 := mxF_add (lossF mv p) (lossF mv q) (lossF mv fun m => p m + q m) k fun i _ _ => by
  have e : lossF mv (fun m => p m + q m) i = lossF mv p i + lossF mv q i := by
   unfold lossF
   rw [← sm_add]
   exact sm_congr fun m _ _ => by rw [Int.add_mul]; omega
  omega
 have h2 : spanF (fun m => p m + q m) pr ≤ spanF p pr + spanF q pr := by
  unfold spanF
  rw [← sm_add]
  refine sm_le fun m m0 m1 => ?_
  rw [← Int.add_mul]
  refine Int.mul_le_mul_of_nonneg_right ?_ (hp m m0 m1)
  show max (p m + q m) (-(p m + q m)) ≤ _
  omega
 have h3 : spanF (fun m => p m + q m) pr * rate ≤ spanF p pr * rate + spanF q pr * rate := by
  rw [← Int.add_mul]
  exact Int.mul_le_mul_of_nonneg_right h2 hr
 unfold marF
 omega
end Go.Proofs.Ytfbbagnpdfafjaa
