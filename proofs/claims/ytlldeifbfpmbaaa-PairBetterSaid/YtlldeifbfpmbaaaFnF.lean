import Derived.Test.YtlldeifbfpmbaaaFnE
set_option maxRecDepth 100000
namespace Go.Proofs.Ytlldeifbfpmbaaa
open Go.RowKit Go.Proofs Go.MapKept
def CoalG (op : Int → Int → Prop) (I : Int → Prop) : Prop := ∃ σ : Int → Int, (∀ x : Int, I x → op x (σ x)) ∧ ∀ x y : Int, I x → I y → σ x = σ y → x = y
theorem KD.coalG {n mn : Nat} {M : Int → Int} {of : Int → Int} (hM : Memb n mn M) {op : Int → Int → Prop} (h : KD n op (InI M mn) of) : CoalG op (InI M mn) := by
 obtain ⟨σ, h1, h2⟩ := h.share
 exact ⟨σ, fun x hx => (h1 x (hM.in_rng hx).1 hx).2, fun x y hx hy e => h2 x y (hM.in_rng hx).1 hx (hM.in_rng hy).1 hy e⟩
theorem KD.noCoalG {n mn : Nat} {M : Int → Int} {of : Int → Int} {i : Int} {s : Int → Bool} (hM : Memb n mn M) {op : Int → Int → Prop} (hop : ∀ x k : Int, op x k → InI M mn k) (i0 : 0 ≤ i) (i1 : i < mn) (h : KD n op (InI M i) of) (hF : KF n op (M i) of (fun _ => false) s) : ¬ CoalG op (InI M mn) := by
 rintro ⟨σ, h1, h2⟩
 have hI : ∀ x : Int, InI M i x ∨ x = M i → InI M mn x := fun x hx => by
  obtain ⟨j, ⟨j0, j1⟩, e⟩ := (InI.snoc i0).2 hx
  exact ⟨j, ⟨j0, by omega⟩, e⟩
 refine KD.fail (by omega) (hM.rng i i0 i1).1 h (fun ⟨j, ⟨j0, j1⟩, e⟩ => ?_) hF ⟨σ, fun x _ hx => ?_, fun x y _ hx _ hy e => h2 x y (hI x hx) (hI y hy) e⟩
 ·have := hM.inj j0 (by omega) i0 i1 e
  omega
 ·have h5 := h1 x (hI x hx)
  exact ⟨hM.in_rng (hop _ _ h5), h5⟩
set_option maxHeartbeats 4000000 in
theorem deal_any (ma fa ra : Option Addr) (mn mc n fc rc : Nat) (M : Int → Int) (FL ML : Int → Nat) (FE ME : Int → Int → Int) (w : World) (hD : DealM w.heap.size w ma fa ra mn n M FL ML FE ME) :
  Calls Try.prog 59 #[.agg #[.slice fa n fc, .slice ra n rc], .slice ma mn mc] w fun e w' => e = .returned (.bool (dB (∃ who : Int, InI M mn who ∧ CoalG (opD M mn who FL ML FE ME) (InI M mn)))) ∧ Below w.heap.size w w' := by
 have hmn := hD.mb.short
 have hn := hD.n64
 obtain ⟨mmb, mo, hma, hmrow⟩ := hD.m.open
 refine calls_of_run (F := [(0, _), (1, _)]) Try.func59 rfl Try.ntmps59 rfl rfl ?_
 have hO0 := Own.init w
 refine run_seq <| run_region <| rl_ow rfl (ow_box _ rfl rfl rfl rfl rfl hO0) ?_
 rintro _ w1 ⟨bc, rfl, hO2, hs3⟩
 refine rl_ow rfl (ow_box _ rfl rfl rfl rfl rfl hO2) ?_
 rintro _ w4 ⟨bm, rfl, hO5, hs6⟩
 refine rl_v rfl rfl rfl (ov_assign rfl rfl) <| rl_nil <| run_seq <| run_seq <| run_region <| rl_v rfl rfl rfl (ov_load rfl Try.underlying23 rfl rfl (by exact hO5.cellL 0 rfl (off := 0) rfl)) ?_
 refine rl_v rfl rfl rfl (ov_len rfl Try.underlying23 rfl) <| rl_v rfl rfl rfl (ov_move rfl rfl) <| rl_nil <| run_block <| Run.keep [2, 3, 13, 14, 15] (F' := [(2, _), (3, _), (13, _), (14, _), (15, _)]) rfl <| run_loop1 (fun (wi : Int) => [(15, .int .i64 wi)]) [2, 3, 13, 14] (fun (wi : Int) (w7 : World) => 0 ≤ wi ∧ wi ≤ mn ∧ (∀ j : Int, 0 ≤ j → j < wi → ¬ CoalG (opD M mn (M j) FL ML FE ME) (InI M mn)) ∧ Own w.heap.size w w7 [some (lch bm 23 [.slice ma mn mc]), some (lch bc 89 [.slice fa n fc, .slice ra n rc])]) (fun (wi : Int) => ((mn : Int) - wi).toNat) (0) ?_ (And.intro (by exact slot_int rfl (by first | omega)) (And.intro rfl (And.intro rfl (And.intro rfl (And.intro rfl trivial))))) ?_
 ·exact ⟨by omega, by omega, fun j j0 j1 => by omega, hO5⟩
 intro wi w7 hIw7 ih8
 obtain ⟨hw0, hw1, hnoc, hO⟩ := hIw7
 show Run _ _ _ _ [(15, _), (2, _), (3, _), (13, _), (14, _)] _ _
 refine run_seq <| run_region <| rl_v rfl rfl rfl (ov_lss rfl rfl rfl) <| rl_nil <| run_seq ?_
 first | refine run_cond_dec rfl (fun c2 => ?_) (fun c2 => ?_) | refine run_cond rfl (fun c2 => ?_) (fun c2 => ?_)
 ·refine run_skip <| run_seq <| run_block <| run_seq <| run_region <| rl_v rfl rfl rfl (ov_index1 rfl Try.underlying23 (by kernel_rfl) rfl rfl ⟨by omega, by omega⟩ (by exact hma (by omega))) ?_
  refine rl_v rfl rfl rfl (ov_load rfl Try.underlying3 rfl rfl (by exact hmrow _ hO.below _ (by omega) (by omega))) ?_
  refine rl_ow rfl (ow_alloc _ rfl rfl rfl zero_3 rfl hO) ?_
  rintro _ w9 ⟨bw, rfl, hO10, hs11⟩
  refine rl_ow rfl (ow_storeL rfl rfl (by kernel_rfl) hO10 0 rfl rfl rfl rfl rfl) ?_
  rintro _ w12 ⟨rfl, hO13, hs14⟩
  refine rl_nil <| run_seq <| run_region <| rl_ow rfl (ow_makemap rfl rfl rfl hO13) ?_
  rintro _ w15 ⟨mb, rfl, hO16, hs17⟩
  refine rl_ow rfl (ow_alloc _ rfl rfl rfl zero_100 rfl hO16) ?_
  rintro _ w18 ⟨bmm, rfl, hO19, hs20⟩
  refine rl_ow rfl (ow_storeL rfl rfl (by kernel_rfl) hO19 0 rfl rfl rfl rfl rfl) ?_
  rintro _ w21 ⟨rfl, hO22, hs23⟩
  refine rl_nil <| run_seq <| run_region <| rl_v rfl rfl rfl (ov_func rfl rfl rfl) <| rl_ow rfl (ow_alloc _ rfl rfl rfl zero_125 rfl hO22) ?_
  rintro _ w24 ⟨bgv, rfl, hO25, hs26⟩
  refine rl_ow rfl (ow_storeL rfl rfl (by kernel_rfl) hO25 0 rfl rfl rfl rfl rfl) ?_
  rintro _ w27 ⟨rfl, hO28, hs29⟩
  refine rl_nil <| run_seq <| run_region <| rl_ow rfl (ow_alloc _ rfl rfl rfl zero_123 rfl hO28) ?_
  rintro _ w30 ⟨bge, rfl, hO31, hs32⟩
  refine rl_nil <| run_seq <| run_region <| rl_v rfl rfl rfl (ov_func rfl rfl rfl) <| rl_ow rfl (ow_storeL rfl rfl (by kernel_rfl) hO31 0 rfl rfl rfl rfl rfl) ?_
  rintro _ w33 ⟨rfl, hO34, hs35⟩
  have hOr := (hO34.perm (List.reverse_perm _).symm).perm (List.perm_middle (l₁ := [some (lch bc 89 [.slice fa n fc, .slice ra n rc]), some (lch bm 23 [.slice ma mn mc]), some (lch bw 3 [iv (M wi)])]))
  have hO3 : Own w.heap.size w w33 (some (mch mb []) :: dealR ma fa ra mn mc n fc rc mb bm bmm bc bw bgv bge (M wi)) := hOr
  have hkd0 : KD n (opD M mn (M wi) FL ML FE ME) (InI M 0) (fun _ => -1) := by
   have h := KD.init n (opD M mn (M wi) FL ML FE ME) (fun _ => -1) fun k k0 k1 => by decide
   exact ⟨h.ok, fun x x0 ⟨j, hj, _⟩ => by omega, fun x x0 _ => h.none x x0 id⟩
  refine rl_nil <| run_seq <| run_region <| rl_v rfl rfl rfl (ov_assign rfl rfl) <| rl_nil <| run_seq <| run_seq <| run_region <| rl_v rfl rfl rfl (ov_load rfl Try.underlying23 rfl rfl (by exact hO3.cellL 2 rfl (off := 0) rfl)) ?_
  refine rl_v rfl rfl rfl (ov_len rfl Try.underlying23 rfl) <| rl_v rfl rfl rfl (ov_move rfl rfl) <| rl_nil <| run_block <| Run.keep [2, 3, 9, 10, 13, 14, 15, 22, 23, 24] (F' := [(2, _), (3, _), (9, _), (10, _), (13, _), (14, _), (15, _), (22, _), (23, _), (24, _)]) rfl <| run_loop4 (fun (j : Int) (okv : Bool) (of : Int → Int) (Lm : List (Int × Value)) => [(24, .int .i64 j), (10, .bool okv)]) [2, 3, 9, 13, 14, 15, 22, 23] (fun (j : Int) (okv : Bool) (of : Int → Int) (Lm : List (Int × Value)) (w36 : World) => 0 ≤ j ∧ j ≤ mn ∧ (∀ k : Int, 0 ≤ k → k < n → -1 ≤ of k ∧ of k < n) ∧ MOf Lm n of ∧ (okv = true → KD n (opD M mn (M wi) FL ML FE ME) (InI M j) of) ∧ (okv = false → ¬ CoalG (opD M mn (M wi) FL ML FE ME) (InI M mn)) ∧ Own w.heap.size w w36 (some (mch mb Lm) :: dealR ma fa ra mn mc n fc rc mb bm bmm bc bw bgv bge (M wi))) (fun (j : Int) (okv : Bool) (of : Int → Int) (Lm : List (Int × Value)) => ((mn : Int) - j).toNat) (0) (true) (fun _ => -1) ([]) ?_ (And.intro (by exact slot_int rfl (by first | omega)) (And.intro (by rfl) (And.intro rfl (And.intro rfl (And.intro rfl (And.intro rfl (And.intro rfl (And.intro rfl (And.intro rfl (And.intro rfl trivial)))))))))) ?_
  ·exact ⟨by omega, by omega, fun k k0 k1 => (by show (-1 : Int) ≤ -1 ∧ (-1 : Int) < n; omega), fun k k0 k1 => rfl, fun _ => hkd0, fun h => Bool.noConfusion h, hO3⟩
  intro j okv of Lm w36 hIw36 ih37
  obtain ⟨hj0, hj1, hofr, hMO, hkt, hkf, hO⟩ := hIw36
  show Run _ _ _ _ [(24, _), (10, _), (2, _), (3, _), (9, _), (13, _), (14, _), (15, _), (22, _), (23, _)] _ _
  refine run_seq <| run_region <| rl_v rfl rfl rfl (ov_lss rfl rfl rfl) <| rl_nil <| run_seq ?_
  first | refine run_cond_dec rfl (fun g1 => ?_) (fun g1 => ?_) | refine run_cond rfl (fun g1 => ?_) (fun g1 => ?_)
  ·refine run_skip <| run_seq <| run_block <| run_seq <| run_region <| rl_v rfl rfl rfl (ov_index1 rfl Try.underlying23 (by kernel_rfl) rfl rfl ⟨by omega, by omega⟩ (by exact hma (by omega))) ?_
   refine rl_v rfl rfl rfl (ov_load rfl Try.underlying3 rfl rfl (by exact hmrow _ hO.below _ (by omega) (by omega))) ?_
   refine rl_v rfl rfl rfl (ov_assign rfl rfl) <| rl_nil <| run_region <| rl_v rfl rfl rfl (ov_move rfl rfl) <| rl_v rfl rfl rfl (ov_move rfl rfl) ?_
   first | refine rl_split_dec 29 rfl (fun g2 => ?_) (fun g2 => ?_) | refine rl_split 29 rfl (fun g2 => ?_) (fun g2 => ?_)
   ·refine rl_gv rfl rfl rfl rfl rfl (ov_load rfl Try.underlying123 rfl rfl (by exact hO.cellL 6 rfl (off := 0) rfl)) ?_
    refine rl_gv rfl rfl rfl rfl rfl (ov_move rfl rfl) <| rl_gow rfl rfl rfl (ow_makemap rfl rfl rfl hO) ?_
    rintro _ w39 ⟨sm, rfl, hO40, hs41⟩
    have hOs := hO40.swap
    have hkd := hkt g2
    have hMj := hD.mb.rng j hj0 g1
    have hms0 : MSn [] n (fun _ => false) := fun k k0 k1 => rfl
    refine rl_gcall callable_84 rfl rfl rfl rfl rfl rfl rfl rfl (give_any hD mc fc rc mb bm bmm bc bw bgv bge (M wi) (uns (fun _ => false) n).toNat (M j) of (fun _ => false) Lm [] sm _ (by have := uns_nonneg (fun _ => false) n; omega) ⟨hMj.1, hMj.2, hofr, hkd.ok, hMO, hms0, hOs⟩) (fun e42 w43 hp44 => ?_)
    obtain ⟨b, of1, s1, Lm1, Ls1, rfl, hMO1, hO4, _, hS, hF⟩ := hp44
    refine ⟨_, rfl, ?_⟩
    have hnPj : ¬ InI M j (M j) := fun ⟨y, ⟨y0, y1⟩, e⟩ => by have := hD.mb.inj y0 (by omega) hj0 g1 e; omega
    have hkt2 : b = true → KD n (opD M mn (M wi) FL ML FE ME) (InI M (j + 1)) of1 := fun hb => hkd.step hnPj (hS hb).1 fun x x0 => InI.snoc hj0
    have hkf2 : b = false → ¬ CoalG (opD M mn (M wi) FL ML FE ME) (InI M mn) := fun hb => KD.noCoalG hD.mb (fun x k h => h.1) hj0 g1 hkd (hF hb).2
    have hofr2 : ∀ k : Int, 0 ≤ k → k < n → -1 ≤ of1 k ∧ of1 k < n := fun k k0 k1 => by
     cases hb : b
     ·rw [(hF hb).1]; exact hofr k k0 k1
     ·exact ⟨(hS hb).1.rng k k0 k1 (hofr k k0 k1).1, (hS hb).2 k k0 k1⟩
    refine rl_v rfl rfl rfl (ov_pick_t rfl rfl rfl) <| rl_v rfl rfl rfl (ov_assign rfl rfl) <| rl_nil <| run_inBlock <| run_region <| rl_v rfl rfl rfl (ov_add rfl rfl rfl (by omega)) ?_
    refine rl_v rfl rfl rfl (ov_move rfl rfl) <| rl_nil ?_
    refine Run.use (ih37 (j + 1) (b) (of1) (Lm1) _ ?_ ?_) (And.intro (by exact slot_int rfl (by first | omega)) (And.intro (by rfl) (And.intro rfl (And.intro rfl (And.intro rfl (And.intro rfl (And.intro rfl (And.intro rfl (And.intro rfl (And.intro rfl trivial))))))))))
    ·first | omega | (dsimp only; omega)
    ·exact ⟨by omega, by omega, hofr2, hMO1, hkt2, hkf2, hO4.sub (.cons_cons _ (.cons _ (.refl _)))⟩
   ·have hokf : okv = false := g2
    refine rl_gskip rfl rfl rfl rfl rfl rfl <| rl_gskip rfl rfl rfl rfl rfl rfl <| rl_gskip rfl rfl rfl rfl rfl rfl <| rl_gskip rfl rfl rfl rfl rfl rfl <| rl_v rfl rfl rfl (ov_pick_f rfl rfl rfl) <| rl_v rfl rfl rfl (ov_assign rfl rfl) <| rl_nil <| run_inBlock <| run_region <| rl_v rfl rfl rfl (ov_add rfl rfl rfl (by omega)) ?_
    refine rl_v rfl rfl rfl (ov_move rfl rfl) <| rl_nil ?_
    refine Run.use (ih37 (j + 1) (false) (of) (Lm) _ ?_ ?_) (And.intro (by exact slot_int rfl (by first | omega)) (And.intro (by rfl) (And.intro rfl (And.intro rfl (And.intro rfl (And.intro rfl (And.intro rfl (And.intro rfl (And.intro rfl (And.intro rfl trivial))))))))))
    ·first | omega | (dsimp only; omega)
    ·exact ⟨by omega, by omega, hofr, hMO, fun h => Bool.noConfusion h, fun _ => hkf hokf, hO⟩
  ·obtain rfl : j = mn := by omega
   refine run_exit rfl <| run_seq <| run_region <| rl_v rfl rfl rfl (ov_move rfl rfl) <| rl_nil ?_
   first | refine run_cond_dec rfl (fun c6 => ?_) (fun c6 => ?_) | refine run_cond rfl (fun c6 => ?_) (fun c6 => ?_)
   ·refine run_seq <| run_region <| rl_v rfl rfl rfl (ov_assign rfl rfl) <| rl_nil <| run_ret Try.func59 (res1 Try.results59 rfl) ?_
    exact ⟨congrArg (fun x => Ending.returned (.bool x)) (dB_iff.2 ⟨M wi, ⟨wi, ⟨hw0, c2⟩, rfl⟩, KD.coalG hD.mb (hkt c6)⟩).symm, hO.below⟩
   ·have hokf : okv = false := by cases okv; rfl; exact Bool.noConfusion c6
    have hncw := hkf hokf
    have hOz := hO.tail.sub (.cons_cons _ (.cons_cons _ (List.nil_sublist _)))
    refine run_skip <| run_inBlock <| run_region <| rl_v rfl rfl rfl (ov_add rfl rfl rfl (by omega)) ?_
    refine rl_v rfl rfl rfl (ov_move rfl rfl) <| rl_nil ?_
    refine Run.use (ih8 (wi + 1) _ ?_ ?_) (And.intro (by exact slot_int rfl (by first | omega)) (And.intro rfl (And.intro rfl (And.intro rfl (And.intro rfl trivial)))))
    ·first | omega | (dsimp only; omega)
    ·exact ⟨by omega, by omega, fun y y0 y1 => by by_cases e : y = wi; (rw [e]; exact hncw); (exact hnoc y y0 (by omega)), hOz.swap⟩
 ·have hno : dB (∃ who : Int, InI M mn who ∧ CoalG (opD M mn who FL ML FE ME) (InI M mn)) = false := by
   cases e : dB (∃ who : Int, InI M mn who ∧ CoalG (opD M mn who FL ML FE ME) (InI M mn))
   ·rfl
   ·obtain ⟨x, ⟨y, ⟨y0, y1⟩, rfl⟩, hc⟩ := dB_iff.1 e
    exact absurd hc (hnoc y y0 (by omega))
  refine run_exit rfl <| run_seq <| run_region <| rl_v rfl rfl rfl (ov_assign rfl rfl) <| rl_nil <| run_ret Try.func59 (res1 Try.results59 rfl) ?_
  exact ⟨congrArg (fun x => Ending.returned (.bool x)) hno.symm, hO.below⟩
end Go.Proofs.Ytlldeifbfpmbaaa
