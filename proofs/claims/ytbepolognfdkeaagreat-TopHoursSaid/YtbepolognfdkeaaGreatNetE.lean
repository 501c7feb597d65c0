import Derived.Test.YtbepolognfdkeaaGreatNetD
import Derived.Test.YtbepolognfdkeaaGreatFlow
set_option maxRecDepth 100000
namespace Go.Proofs.YtbepolognfdkeaaGreat
open Go.RowKit Go.Proofs
theorem fillN_any (B : Nat) (w0 w : World) (H : List (Option Blk)) (b n c M ca : Nat) (ao aa : Option Addr) (c' : Option Blk) (D : Int → Int → Int) (lf : Int → Int) (hn : 1 ≤ n) (hn2 : n ≤ 32) (hM : (M : Int) = 2 * ((n : Int) * n)) (hD : ∀ i j, D i j ≤ 1000000)
  (hO : Own B w0 w (some (lch b 178 [.slice ao n c, .slice aa M ca]) :: c' :: H)) (hR : SRow (.slice aa M ca) 180 4 M (arcL (afr n) (ato n) lf agn) c') (hF : Flow n D lf) :
  Calls Tryz.prog 74 #[.pointer (some ⟨b, 0, none⟩)] w fun e w' =>
   ∃ (bh : Nat) (h lf' : Int → Int) (c2 : Option Blk), e = .returned (.slice (some ⟨bh, 0, none⟩) n n) ∧
    Own B w0 w' (some (vch bh 2 n (fun v => .int .i64 (h v))) :: some (lch b 178 [.slice ao n c, .slice aa M ca]) :: c2 :: H) ∧ SRow (.slice aa M ca) 180 4 M (arcL (afr n) (ato n) lf' agn) c2 ∧ Flow n D lf' ∧
    (∀ v, 0 ≤ h v ∧ h v ≤ 100000) ∧ (∀ e : Int, 0 ≤ e → e < M → 0 < lf' e → h (afr n e) + agn e ≤ h (ato n e)) ∧ ∃ (l τ : Int → Int), Back n M (afr n) (ato n) agn lf' h l τ ∧ ∀ v, τ v ≤ 0 → h v = 0 := by
 have hnn : (n : Int) * n ≤ 1024 := (mulb (show (0 : Int) ≤ n by omega) (show (n : Int) ≤ 32 by omega) (show (0 : Int) ≤ n by omega) (show (n : Int) ≤ 32 by omega)).2
 have hM2 : M ≤ 2048 := by omega
 have hrng : ∀ e : Int, 0 ≤ e → e < M → (0 ≤ afr n e ∧ afr n e < n) ∧ (0 ≤ ato n e ∧ ato n e < n) ∧ -1 ≤ agn e ∧ agn e ≤ 1 := fun e e0 e1 => arc_rng hn e0 (by omega)
 refine calls_of_run (F := [(0, _)]) Tryz.func74 rfl Tryz.ntmps74 rfl rfl <| run_seq <| run_region <| rl_v rfl rfl rfl (ov_assign rfl rfl) <| rl_nil <| run_block <| Run.keep [0] (F' := [(0, _)]) rfl <| run_loop2 (fun (lf1 : Int → Int) (c1 : Option Blk) => []) [0] (fun (lf1 : Int → Int) (c1 : Option Blk) (w1 : World) => Flow n D lf1 ∧ SRow (.slice aa M ca) 180 4 M (arcL (afr n) (ato n) lf1 agn) c1 ∧ Own B w0 w1 (some (lch b 178 [.slice ao n c, .slice aa M ca]) :: c1 :: H)) (fun (lf1 : Int → Int) (c1 : Option Blk) => (total n D - amt n lf1).toNat) (lf) (c') ?_ (And.intro rfl trivial) ?_
 ·exact ⟨hF, hR, hO⟩
 intro lf1 c1 w1 hIw1 ih2
 obtain ⟨hF1, hR1, hO1⟩ := hIw1
 show Run _ _ _ _ [(0, _)] _ _
 refine run_block <| run_seq <| run_region <| rl_v rfl rfl rfl (ov_move rfl rfl) ?_
 refine rl_call callable_126 rfl rfl rfl rfl rfl rfl (heights_any b n c M ca ao aa (afr n) (ato n) lf1 agn _ hn hn2 hM2 (hO1.readsL 0 rfl) (hR1.reads hO1 1 rfl) hrng) (fun e3 w4 hp5 => ?_)
 obtain ⟨bh, bl, h, l, on, rfl, hOh, hhb, hcase⟩ := hp5
 refine ⟨_, rfl, ?_⟩
 have hO6 := hO1.join hOh
 refine rl_v rfl rfl rfl (ov_move rfl rfl) <| rl_v rfl rfl rfl (ov_extract rfl rfl (by rfl)) ?_
 refine rl_v rfl rfl rfl (ov_extract rfl rfl (by rfl)) ?_
 refine rl_v rfl rfl rfl (ov_extract rfl rfl (by rfl)) ?_
 refine rl_v rfl rfl rfl (ov_assign rfl rfl) <| rl_v rfl rfl rfl (ov_assign rfl rfl) <| rl_v rfl rfl rfl (ov_assign rfl rfl) <| rl_nil <| run_seq <| run_seq <| run_region <| rl_v rfl rfl rfl (ov_move rfl rfl) <| rl_v rfl rfl rfl (ov_lss rfl rfl rfl) <| rl_nil ?_
 first | refine run_cond_dec rfl (fun h1 => ?_) (fun h1 => ?_) | refine run_cond rfl (fun h1 => ?_) (fun h1 => ?_)
 ·obtain ⟨_, hcalm, hT⟩ := hcase.resolve_right (fun hx => by have := hx.1; omega)
  refine run_seq <| run_region <| rl_v rfl rfl rfl (ov_move rfl rfl) <| rl_v rfl rfl rfl (ov_assign rfl rfl) <| rl_nil <| run_ret Tryz.func74 (res1 Tryz.results74 rfl) ?_
  exact ⟨bh, h, lf1, c1, rfl, hO6.sub (.cons_cons _ (.cons _ (.refl _))), hR1, hF1, hhb, hcalm, l, hT⟩
 ·obtain ⟨hon, honn, τ, hB, hτ⟩ := hcase.resolve_left (fun hx => h1 hx.1)
  have hM0 : (0 : Int) ≤ M := by omega
  have hch := chain_ok hB hM0 on hon honn hτ
  obtain ⟨q, hq⟩ := found hB hM0 on hon honn hτ
  have hOA := hO6
  have hc := (hOA.readsL 2 rfl).open
  have hlast := hOA.openI 1 rfl
  obtain ⟨gb, go, hga, hrow⟩ := (hR1.reads hOA 3 rfl).open (by omega)
  have hI0 := Own.init w4
  refine run_skip <| run_seq <| run_seq <| run_region <| rl_v rfl rfl rfl (ov_move rfl rfl) <| rl_v rfl rfl rfl (ov_nil rfl rfl) <| rl_v rfl rfl rfl (ov_fieldS rfl Tryz.underlying178 rfl (fo := 0) rfl (by kernel_rfl) rfl) ?_
  refine rl_v rfl rfl rfl (ov_load rfl Tryz.underlying55 rfl rfl (by exact hc _ hI0.below rfl)) ?_
  refine rl_v rfl rfl rfl (ov_len rfl Tryz.underlying55 rfl) <| rl_v rfl rfl rfl (ov_move rfl rfl) <| rl_nil <| run_block <| Run.keep [0, 4, 5, 25, 26] (F' := [(0, _), (4, _), (5, _), (25, _), (26, _)]) rfl <| run_loop2 (fun (i : Int) (j : Nat) => [(26, .int .i64 i), (5, .int .i64 (bk (afr n) l on j))]) [0, 4, 25] (fun (i : Int) (j : Nat) (w7 : World) => i = j ∧ j ≤ n ∧ Own w4.heap.size w4 w7 []) (fun (i : Int) (j : Nat) => n - j) (0) (0) ?_ (And.intro (by exact slot_int rfl (by first | omega)) (And.intro (by rfl) (And.intro rfl (And.intro rfl (And.intro rfl trivial))))) ?_
  ·exact ⟨by omega, by omega, hI0⟩
  intro i j w7 hIw7 ih8
  obtain ⟨hij, hjn, hI⟩ := hIw7
  show Run _ _ _ _ [(26, _), (5, _), (0, _), (4, _), (25, _)] _ _
  refine run_seq <| run_region <| rl_v rfl rfl rfl (ov_lss rfl rfl rfl) <| rl_nil <| run_seq ?_
  first | refine run_cond_dec rfl (fun h2 => ?_) (fun h2 => ?_) | refine run_cond rfl (fun h2 => ?_) (fun h2 => ?_)
  ·obtain ⟨⟨hc0, hc1⟩, hc2, hc3⟩ := hch j hjn
   refine run_skip <| run_seq <| run_block <| run_quiet mixed (by kernel_rfl) ?_
   refine rq_v rfl rfl rfl (fun _ => ov_move rfl rfl) ?_
   refine rq_v rfl rfl rfl (fun _ => ov_nil rfl rfl) ?_
   refine rq_v rfl rfl rfl (fun _ => ov_fieldS rfl Tryz.underlying178 rfl (fo := 1) rfl (by kernel_rfl) rfl) ?_
   refine rq_v rfl rfl rfl (fun _ => ov_load rfl Tryz.underlying176 rfl rfl (by show World.cell? w7 _ = _; first | exact hc _ hI.below rfl | exact hlast _ hI.below _ (by omega) (by omega) | exact hrow _ hI.below _ (by omega) (by omega) _ (by omega) | exact hI.cellI 0 rfl _ (by omega) (by omega) | exact hI.cellL 0 rfl rfl | exact hI.cellI 1 rfl _ (by omega) (by omega) | exact hI.cellL 1 rfl rfl | exact hI.cellI 2 rfl _ (by omega) (by omega) | exact hI.cellL 2 rfl rfl | exact hI.cellI 3 rfl _ (by omega) (by omega) | exact hI.cellL 3 rfl rfl | exact hI.cellI 4 rfl _ (by omega) (by omega) | exact hI.cellL 4 rfl rfl | exact hI.cellI 5 rfl _ (by omega) (by omega) | exact hI.cellL 5 rfl rfl)) ?_
   refine rq_v rfl rfl rfl (fun _ => ov_move rfl rfl) ?_
   refine rq_v rfl rfl rfl (fun _ => ov_move rfl rfl) ?_
   refine rq_v rfl rfl rfl (fun _ => ov_index1 rfl Tryz.underlying36 (by kernel_rfl) rfl rfl ⟨by omega, by omega⟩ (by rfl)) ?_
   refine rq_v rfl rfl rfl (fun _ => ov_load rfl Tryz.underlying3 rfl rfl (by show World.cell? w7 _ = _; first | exact hc _ hI.below rfl | exact hlast _ hI.below _ (by omega) (by omega) | exact hrow _ hI.below _ (by omega) (by omega) _ (by omega) | exact hI.cellI 0 rfl _ (by omega) (by omega) | exact hI.cellL 0 rfl rfl | exact hI.cellI 1 rfl _ (by omega) (by omega) | exact hI.cellL 1 rfl rfl | exact hI.cellI 2 rfl _ (by omega) (by omega) | exact hI.cellL 2 rfl rfl | exact hI.cellI 3 rfl _ (by omega) (by omega) | exact hI.cellL 3 rfl rfl | exact hI.cellI 4 rfl _ (by omega) (by omega) | exact hI.cellL 4 rfl rfl | exact hI.cellI 5 rfl _ (by omega) (by omega) | exact hI.cellL 5 rfl rfl)) ?_
   refine rq_v rfl rfl rfl (fun _ => ov_index rfl Tryz.underlying176 (by kernel_rfl) (s := 4) rfl rfl ⟨by omega, by omega⟩ (by exact hga (by omega))) ?_
   refine rq_v rfl rfl rfl (fun _ => ov_fieldS rfl Tryz.underlying180 rfl (fo := 0) rfl (by kernel_rfl) rfl) ?_
   refine rq_v rfl rfl rfl (fun _ => ov_load rfl Tryz.underlying3 rfl rfl (by show World.cell? w7 _ = _; first | exact hc _ hI.below rfl | exact hlast _ hI.below _ (by omega) (by omega) | exact hrow _ hI.below _ (by omega) (by omega) _ (by omega) | exact hI.cellI 0 rfl _ (by omega) (by omega) | exact hI.cellL 0 rfl rfl | exact hI.cellI 1 rfl _ (by omega) (by omega) | exact hI.cellL 1 rfl rfl | exact hI.cellI 2 rfl _ (by omega) (by omega) | exact hI.cellL 2 rfl rfl | exact hI.cellI 3 rfl _ (by omega) (by omega) | exact hI.cellL 3 rfl rfl | exact hI.cellI 4 rfl _ (by omega) (by omega) | exact hI.cellL 4 rfl rfl | exact hI.cellI 5 rfl _ (by omega) (by omega) | exact hI.cellL 5 rfl rfl)) ?_
   refine rq_v rfl rfl rfl (fun _ => ov_assign rfl rfl) ?_
   refine rq_nil (fun n9 => ?_)
   have hO11 := hI.drewN n9
   generalize World.drewN w7 n9 = w10 at hO11 ⊢
   refine run_inBlock <| run_region <| rl_v rfl rfl rfl (ov_add rfl rfl rfl (by omega)) ?_
   refine rl_v rfl rfl rfl (ov_move rfl rfl) <| rl_nil ?_
   refine Run.use (ih8 (i + 1) (j + 1) _ ?_ ?_) (And.intro (by exact slot_int rfl (by first | omega)) (And.intro (by rfl) (And.intro rfl (And.intro rfl (And.intro rfl trivial)))))
   ·first | omega | (dsimp only; omega)
   ·exact ⟨by omega, by omega, hO11⟩
  ·obtain rfl : n = j := by omega
   obtain ⟨⟨hx0, hx1⟩, _, _⟩ := hch n hjn
   generalize bk (afr n) l on n = x at hq hx0 hx1 ⊢
   have hqn := hq.le
   refine run_exit rfl <| run_seq <| run_region <| rl_ow rfl (ow_empty rfl rfl rfl Tryz.underlying36 info_3 hI) ?_
   rintro _ w12 ⟨rv0, cr0, rfl, hO13, hr0, hs14⟩
   refine rl_v rfl rfl rfl (ov_assign rfl rfl) <| rl_v rfl rfl rfl (ov_assign rfl rfl) <| rl_nil <| run_seq <| run_seq <| run_region <| rl_v rfl rfl rfl (ov_move rfl rfl) <| rl_v rfl rfl rfl (ov_assign rfl rfl) <| rl_nil <| run_block <| Run.keep [0, 4, 5, 6, 7, 8] (F' := [(0, _), (4, _), (5, _), (6, _), (7, _), (8, _)]) rfl <| run_loop3 (fun (j2 : Nat) (rv : Value) (cr : Option Blk) => [(6, rv), (7, .int .i64 (mnl (fun i => lf1 (l (bk (afr n) l x i))) j2)), (8, .int .i64 (bk (afr n) l x j2))]) [0, 4, 5] (fun (j2 : Nat) (rv : Value) (cr : Option Blk) (w15 : World) => j2 < q ∧ IRow rv 3 j2 (fun i => .int .i64 (l (bk (afr n) l x i.toNat))) cr ∧ Own w4.heap.size w4 w15 [cr]) (fun (j2 : Nat) (rv : Value) (cr : Option Blk) => q - j2) (0) (rv0) (cr0) ?_ (And.intro rfl (And.intro (by rfl) (And.intro (by rfl) (And.intro rfl (And.intro rfl (And.intro rfl trivial)))))) ?_
   ·exact ⟨hq.pos, hr0 _, hO13⟩
   intro j2 rv cr w15 hIw15 ih16
   obtain ⟨hjq, hrr, hI2⟩ := hIw15
   show Run _ _ _ _ [(6, _), (7, _), (8, _), (0, _), (4, _), (5, _)] _ _
   obtain ⟨ha0, ha1, ha2, ha3⟩ := hq.arc j2
   have hxr := (hrng _ ha0 ha1).2.1
   rw [ha2] at hxr
   refine run_block <| run_seq <| run_region <| rl_v rfl rfl rfl (ov_move rfl rfl) <| rl_v rfl rfl rfl (ov_move rfl rfl) <| rl_v rfl rfl rfl (ov_index1 rfl Tryz.underlying36 (by kernel_rfl) rfl rfl ⟨by omega, by omega⟩ (by rfl)) ?_
   refine rl_v rfl rfl rfl (ov_load rfl Tryz.underlying3 rfl rfl (by exact hlast _ hI2.below _ (by omega) (by omega))) ?_
   refine rl_v rfl rfl rfl (ov_assign rfl rfl) <| rl_nil <| run_seq <| run_held (fun w' => Own w4.heap.size w4 w' ([])) mixed ?_
   have hO18 := hI2.drew
   generalize World.drew w15 = w17 at hO18 ⊢
   have hS19 : Own w4.heap.size w4 w17 ([]) := by exact hO18.none_
   refine rh_v 0 rfl (by kernel_rfl) rfl rfl rfl hS19 (fun _ hS => ov_move rfl rfl) ?_
   refine rh_v 1 rfl (by kernel_rfl) rfl rfl rfl hS19 (fun _ hS => ov_move rfl rfl) ?_
   refine rh_v 4 rfl (by kernel_rfl) rfl rfl rfl hS19 (fun _ hS => ov_move rfl rfl) ?_
   refine rh_v 5 rfl (by kernel_rfl) rfl rfl rfl hS19 (fun _ hS => ov_move rfl rfl) ?_
   refine rh_v 6 rfl (by kernel_rfl) rfl rfl rfl hS19 (fun _ hS => ov_nil rfl rfl) ?_
   refine rh_v 7 rfl (by kernel_rfl) rfl rfl rfl hS19 (fun _ hS => ov_fieldS rfl Tryz.underlying178 rfl (fo := 1) rfl (by kernel_rfl) rfl) ?_
   refine rh_v 8 rfl (by kernel_rfl) rfl rfl rfl hS19 (fun _ hS => ov_load rfl Tryz.underlying176 rfl rfl (by exact hc _ hS.below rfl)) ?_
   refine rh_v 9 rfl (by kernel_rfl) rfl rfl rfl hS19 (fun _ hS => ov_move rfl rfl) ?_
   refine rh_v 10 rfl (by kernel_rfl) rfl rfl rfl hS19 (fun _ hS => ov_index rfl Tryz.underlying176 (by kernel_rfl) (s := 4) rfl rfl ⟨by omega, by omega⟩ (by exact hga (by omega))) ?_
   refine rh_v 11 rfl (by kernel_rfl) rfl rfl rfl hS19 (fun _ hS => ov_fieldS rfl Tryz.underlying180 rfl (fo := 2) rfl (by kernel_rfl) rfl) ?_
   refine rh_v 12 rfl (by kernel_rfl) rfl rfl rfl hS19 (fun _ hS => ov_load rfl Tryz.underlying2 rfl rfl (by exact hrow _ hS.below _ (by omega) (by omega) _ (by omega))) ?_
   refine rh_v 13 rfl (by kernel_rfl) rfl rfl rfl hS19 (fun _ hS => ov_min rfl rfl rfl) ?_
   refine rh_v 14 rfl (by kernel_rfl) rfl rfl rfl hS19 (fun _ hS => ov_move rfl rfl) ?_
   refine rh_v 15 rfl (by kernel_rfl) rfl rfl rfl hS19 (fun _ hS => ov_nil rfl rfl) ?_
   refine rh_v 16 rfl (by kernel_rfl) rfl rfl rfl hS19 (fun _ hS => ov_fieldS rfl Tryz.underlying178 rfl (fo := 1) rfl (by kernel_rfl) rfl) ?_
   refine rh_v 17 rfl (by kernel_rfl) rfl rfl rfl hS19 (fun _ hS => ov_load rfl Tryz.underlying176 rfl rfl (by exact hc _ hS.below rfl)) ?_
   refine rh_v 18 rfl (by kernel_rfl) rfl rfl rfl hS19 (fun _ hS => ov_move rfl rfl) ?_
   refine rh_v 19 rfl (by kernel_rfl) rfl rfl rfl hS19 (fun _ hS => ov_index rfl Tryz.underlying176 (by kernel_rfl) (s := 4) rfl rfl ⟨by omega, by omega⟩ (by exact hga (by omega))) ?_
   refine rh_v 20 rfl (by kernel_rfl) rfl rfl rfl hS19 (fun _ hS => ov_fieldS rfl Tryz.underlying180 rfl (fo := 0) rfl (by kernel_rfl) rfl) ?_
   refine rh_v 21 rfl (by kernel_rfl) rfl rfl rfl hS19 (fun _ hS => ov_load rfl Tryz.underlying3 rfl rfl (by exact hrow _ hS.below _ (by omega) (by omega) _ (by omega))) ?_
   refine rh_any1 2 (by kernel_rfl) ?_
   refine rc_op rfl rfl (ow_one rfl rfl rfl Tryz.underlying36 info_3 rfl hO18 rfl rfl) ?_
   rintro _ w20 ⟨b1, rfl, hO21, hs22⟩
   have hS23 : Own w4.heap.size w4 w20 ([]) := by exact hO21.none_
   refine ⟨hS23, ?_⟩
   refine rh_any1 3 (by kernel_rfl) ?_
   refine rc_op rfl rfl (ow_app1 rfl rfl rfl Tryz.underlying36 info_3 rfl hO21 0 hrr rfl rfl rfl rfl ⟨by omega, by omega⟩) ?_
   rintro _ w24 ⟨rv2, cr2, rfl, hO25, hrr2, hs26⟩
   have hS27 : Own w4.heap.size w4 w24 ([]) := by exact hO25.none_
   refine ⟨hS27, ?_⟩
   have hrr3 : IRow rv2 3 (j2 + 1) (fun i => .int .i64 (l (bk (afr n) l x i.toNat))) cr2 := hrr2.congr (fun i h0 h1 => by
    unfold upd; split
    ·rename_i e; rw [e]; rfl
    ·rfl)
   refine rh_v 22 rfl (by kernel_rfl) rfl rfl rfl hS27 (fun _ hS => ov_assign rfl rfl) ?_
   refine rh_v 23 rfl (by kernel_rfl) rfl rfl rfl hS27 (fun _ hS => ov_assign rfl rfl) ?_
   refine rh_v 24 rfl (by kernel_rfl) rfl rfl rfl hS27 (fun _ hS => ov_assign rfl rfl) ?_
   refine rh_done (by kernel_rfl) ?_
   refine run_seq <| run_region <| rl_v rfl rfl rfl (ov_move rfl rfl) <| rl_v rfl rfl rfl (ov_move rfl rfl) <| rl_v rfl rfl rfl (ov_eql rfl rfl rfl) <| rl_nil ?_
   first | refine run_cond_dec rfl (fun h3 => ?_) (fun h3 => ?_) | refine run_cond rfl (fun h3 => ?_) (fun h3 => ?_)
   ·have hq1 : j2 + 1 = q := by
     by_cases hlt : j2 + 1 < q
     ·exact absurd h3 (hq.back (j2 + 1) (by omega) hlt)
     ·omega
    obtain ⟨rao, rcap, rfl⟩ := Row.val hrr3
    have hOB := hOA.join hO25
    obtain rfl := hq1
    have hes : ∀ i, i < j2 + 1 → 0 ≤ l (bk (afr n) l x i) ∧ l (bk (afr n) l x i) < 2 * ((n : Int) * n) ∧ ato n (l (bk (afr n) l x i)) = bk (afr n) l x i ∧ afr n (l (bk (afr n) l x i)) = bk (afr n) l x (i + 1) := fun i _ => by
     have := hq.arc i
     exact ⟨this.1, by omega, this.2.2.1, rfl⟩
    have hne : ∀ i k, i < k → k < j2 + 1 → l (bk (afr n) l x i) ≠ l (bk (afr n) l x k) := fun i k h1 h2 e => hq.ne i k h1 h2 (by rw [← (hes i (by omega)).2.2.1, ← (hes k h2).2.2.1, e])
    have hm1 := mnl_pos (fun i => lf1 (l (bk (afr n) l x i))) (j2 + 1) (fun i _ => (hq.arc i).2.2.2)
    have hP0 := Pushed.start (es := fun i => l (bk (afr n) l x i)) (xs := fun i => bk (afr n) l x i) (q := j2 + 1) hF1 (mnl_le (fun i => lf1 (l (bk (afr n) l x i))) (j2 + 1))
    have hO10 := hOB
    have hm0 : min (mnl (fun i => lf1 (l (bk (afr n) l x i))) j2) (lf1 (l (bk (afr n) l x j2))) = mnl (fun i => lf1 (l (bk (afr n) l x i))) (j2 + 1) := rfl
    generalize mnl (fun i => lf1 (l (bk (afr n) l x i))) (j2 + 1) = m at hm0 hm1 hP0
    rw [hm0]
    refine run_exit rfl <| run_seq <| run_region <| rl_v rfl rfl rfl (ov_move rfl rfl) <| rl_v rfl rfl rfl (ov_len rfl Tryz.underlying36 rfl) <| rl_v rfl rfl rfl (ov_move rfl rfl) <| rl_nil <| run_block <| Run.keep [0, 7, 71, 72, 73] (F' := [(0, _), (7, _), (71, _), (72, _), (73, _)]) rfl <| run_loop3 (fun (j : Nat) (lf2 : Int → Int) (c2 : Option Blk) => [(73, .int .i64 j)]) [0, 7, 71, 72] (fun (j : Nat) (lf2 : Int → Int) (c2 : Option Blk) (w28 : World) => j ≤ j2 + 1 ∧ Pushed n D (fun i => l (bk (afr n) l x i)) (fun i => bk (afr n) l x i) (j2 + 1) m (amt n lf1) j lf2 ∧ SRow (.slice aa M ca) 180 4 M (arcL (afr n) (ato n) lf2 agn) c2 ∧ Own B w0 w28 (cr2 :: some (vch bh 2 n (fun v => .int .i64 (h v))) :: some (vch bl 3 n (fun v => .int .i64 (l v))) :: some (lch b 178 [.slice ao n c, .slice aa M ca]) :: c2 :: H)) (fun (j : Nat) (lf2 : Int → Int) (c2 : Option Blk) => j2 + 1 - j) (0) (lf1) (c1) ?_ (And.intro (by exact slot_int rfl (by first | omega)) (And.intro rfl (And.intro rfl (And.intro rfl (And.intro rfl trivial))))) ?_
    ·exact ⟨by omega, hP0, hR1, hO10⟩
    intro j lf2 c2 w28 hIw28 ih29
    obtain ⟨hj, hP, hR2, hO2⟩ := hIw28
    show Run _ _ _ _ [(73, _), (0, _), (7, _), (71, _), (72, _)] _ _
    refine run_seq <| run_region <| rl_v rfl rfl rfl (ov_lss rfl rfl rfl) <| rl_nil <| run_seq ?_
    first | refine run_cond_dec rfl (fun h5 => ?_) (fun h5 => ?_) | refine run_cond rfl (fun h5 => ?_) (fun h5 => ?_)
    ·obtain ⟨he0, he1, het, hef⟩ := hes j (by omega)
     have htw0 : 0 ≤ tw (l (bk (afr n) l x j)) ∧ tw (l (bk (afr n) l x j)) < 2 * ((n : Int) * n) := by unfold tw; split <;> omega
     have hv1 := hP.rng hn hD he0 he1
     have hv2 := hP.rng hn hD htw0.1 htw0.2
     have hv3 : m ≤ lf2 (l (bk (afr n) l x j)) := hP.room j (Nat.le_refl _) (by omega)
     have hst : Pushed n D (fun i => l (bk (afr n) l x i)) (fun i => bk (afr n) l x i) (j2 + 1) m (amt n lf1) (j + 1) (push lf2 (l (bk (afr n) l x j)) m) := hP.step hn (by omega) (by omega) hes hne
     obtain ⟨rb, hra, hrg⟩ := hrr3.openS hO2 0 rfl
     have hrj : World.cell? w28 ⟨rb, 0 + (j : Int).toNat, none⟩ = some (.int .i64 (l (bk (afr n) l x j))) := hrg (j : Int) (by omega) (by omega)
     obtain ⟨gb2, hga2, hrow2⟩ := hR2.openS hO2 4 rfl
     generalize l (bk (afr n) l x j) = e at *
     refine run_skip <| run_seq <| run_block <| run_seq <| run_region <| rl_v rfl rfl rfl (ov_index1 rfl Tryz.underlying36 (by kernel_rfl) rfl rfl ⟨by omega, by omega⟩ (by exact hra (by omega))) ?_
     refine rl_v rfl rfl rfl (ov_load rfl Tryz.underlying3 rfl rfl (by exact id hrj)) ?_
     refine rl_v rfl rfl rfl (ov_assign rfl rfl) <| rl_nil <| run_seq <| run_region <| rl_v rfl rfl rfl (ov_move rfl rfl) <| rl_v rfl rfl rfl (ov_nil rfl rfl) <| rl_v rfl rfl rfl (ov_fieldS rfl Tryz.underlying178 rfl (fo := 1) rfl (by kernel_rfl) rfl) ?_
     refine rl_v rfl rfl rfl (ov_load rfl Tryz.underlying176 rfl rfl (by exact hO2.cellL 3 rfl rfl)) ?_
     refine rl_v rfl rfl rfl (ov_move rfl rfl) <| rl_v rfl rfl rfl (ov_index rfl Tryz.underlying176 (by kernel_rfl) (s := 4) rfl rfl ⟨by omega, by omega⟩ (by exact hga2 (by omega))) ?_
     refine rl_v rfl rfl rfl (ov_fieldS rfl Tryz.underlying180 rfl (fo := 2) rfl (by kernel_rfl) rfl) ?_
     refine rl_v rfl rfl rfl (ov_load rfl Tryz.underlying2 rfl rfl (by exact hrow2 _ (by omega) (by omega) _ (by omega))) ?_
     refine rl_v rfl rfl rfl (ov_move rfl rfl) <| rl_v rfl rfl rfl (ov_sub rfl rfl rfl (by omega)) ?_
     refine rl_v rfl rfl rfl (ov_index rfl Tryz.underlying176 (by kernel_rfl) (s := 4) rfl rfl ⟨by omega, by omega⟩ (by exact hga2 (by omega))) ?_
     refine rl_v rfl rfl rfl (ov_fieldS rfl Tryz.underlying180 rfl (fo := 2) rfl (by kernel_rfl) rfl) ?_
     refine rl_ow rfl (ow_storeR rfl rfl (by kernel_rfl) hO2 4 hR2 rfl (fun _ => hga2 (by omega)) rfl ⟨by omega, by omega⟩ rfl rfl rfl rfl) ?_
     rintro _ w30 ⟨c3, rfl, hO31, hR3, hs32⟩
     rw [arc_set] at hR3
     obtain ⟨gb3, hga3, hrow3⟩ := hR3.openS hO31 4 rfl
     have hu : upd lf2 e (lf2 e - m) (tw e) = lf2 (tw e) := upd_ne _ _ (tw_ne e)
     have hwt : (if e % 2 = 0 then e + 1 else e - 1) = tw e := rfl
     refine rl_nil <| run_region <| rl_v rfl rfl rfl (ov_move rfl rfl) <| rl_v rfl rfl rfl (ov_nil rfl rfl) <| rl_v rfl rfl rfl (ov_fieldS rfl Tryz.underlying178 rfl (fo := 1) rfl (by kernel_rfl) rfl) ?_
     refine rl_v rfl rfl rfl (ov_load rfl Tryz.underlying176 rfl rfl (by exact hO31.cellL 3 rfl rfl)) ?_
     refine rl_v rfl rfl rfl (ov_move rfl rfl) <| rl_v rfl rfl rfl (ov_xor1 rfl rfl rfl ⟨by omega, by omega⟩) ?_
     refine rl_v rfl rfl rfl (ov_index rfl Tryz.underlying176 (by kernel_rfl) (s := 4) rfl rfl ⟨by omega, by omega⟩ (by exact hga3 (by omega))) ?_
     refine rl_v rfl rfl rfl (ov_fieldS rfl Tryz.underlying180 rfl (fo := 2) rfl (by kernel_rfl) rfl) ?_
     refine rl_v rfl rfl rfl (ov_load rfl Tryz.underlying2 rfl rfl (by exact hrow3 _ (by omega) (by omega) _ (by omega))) ?_
     refine rl_v rfl rfl rfl (ov_move rfl rfl) <| rl_v rfl rfl rfl (ov_add rfl rfl rfl (by rw [hwt, hu]; omega)) ?_
     refine rl_v rfl rfl rfl (ov_index rfl Tryz.underlying176 (by kernel_rfl) (s := 4) rfl rfl ⟨by omega, by omega⟩ (by exact hga3 (by omega))) ?_
     refine rl_v rfl rfl rfl (ov_fieldS rfl Tryz.underlying180 rfl (fo := 2) rfl (by kernel_rfl) rfl) ?_
     refine rl_ow rfl (ow_storeR rfl rfl (by kernel_rfl) hO31 4 hR3 rfl (fun _ => hga3 (by omega)) rfl ⟨by omega, by omega⟩ rfl rfl rfl rfl) ?_
     rintro _ w33 ⟨c4, rfl, hO34, hR4, hs35⟩
     rw [arc_set] at hR4
     refine rl_nil <| run_inBlock <| run_region <| rl_v rfl rfl rfl (ov_add rfl rfl rfl (by omega)) ?_
     refine rl_v rfl rfl rfl (ov_move rfl rfl) <| rl_nil ?_
     refine Run.use (ih29 (j + 1) (push lf2 e m) (c4) _ ?_ ?_) (And.intro (by exact slot_int rfl (by first | omega)) (And.intro rfl (And.intro rfl (And.intro rfl (And.intro rfl trivial)))))
     ·first | omega | (dsimp only; omega)
     ·exact ⟨by omega, hst, hR4, hO34⟩
    ·obtain rfl : j = j2 + 1 := by omega
     obtain ⟨hF3, ham⟩ := hP.done hq.ret hm1 hq.gain
     have htop := hF3.top
     refine run_exit rfl <| run_inBlock ?_
     refine Run.use (ih2 (lf2) (c2) _ ?_ ?_) (And.intro rfl trivial)
     ·first | omega | (dsimp only; omega)
     ·exact ⟨hF3, hR2, hO2.sub (.cons _ (.cons _ (.cons _ (.refl _))))⟩
   ·refine run_skip <| run_inBlock ?_
    refine Run.use (ih16 (j2 + 1) (rv2) (cr2) _ ?_ ?_) (And.intro rfl (And.intro (by rfl) (And.intro (by rfl) (And.intro rfl (And.intro rfl (And.intro rfl trivial))))))
    ·first | omega | (dsimp only; omega)
    ·exact ⟨by have : j2 + 1 ≠ q := fun e => h3 (by have h := hq.ret; rw [← e] at h; exact h); omega, hrr3, hO25⟩
end Go.Proofs.YtbepolognfdkeaaGreat
