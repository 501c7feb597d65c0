import Derived.Test.YtbepolognfdkeaaGcO
set_option maxRecDepth 100000
namespace Go.Proofs.Ytbepolognfdkeaa
open Go.RowKit Go.Proofs Go.MapKept
theorem window7_any (l : Lds) (i : Int) (w : World) : Calls Try.prog 53 #[.agg (ldF l i).toArray] w fun e w' => e = .returned (.agg #[iv (l.r i), iv (l.d i)]) ∧ Own w.heap.size w w' [] := by
 refine calls_of_run (F := [(0, _)]) Try.func53 rfl Try.ntmps53 rfl rfl ?_
 have hO0 := Own.init w
 refine run_seq <| run_region <| rl_ow rfl (ow_box _ rfl rfl rfl rfl rfl hO0) ?_
 rintro _ w1 ⟨b1, rfl, hO2, hs3⟩
 have hOb : Own w.heap.size w w1 [some (lch b1 84 (ldF l i))] := hO2
 refine rl_ow rfl (ow_alloc [iv 0, iv 0] rfl rfl rfl zero_89 rfl hOb) ?_
 rintro _ w4 ⟨b2, rfl, hO5, hs6⟩
 refine rl_nil <| run_seq <| run_region <| rl_v rfl rfl rfl (ov_fieldS rfl Try.underlying84 rfl (fo := 0) rfl (by kernel_rfl) rfl) ?_
 refine rl_v rfl rfl rfl (ov_load rfl Try.underlying3 rfl rfl (by exact hO5.cellL 1 rfl (off := 0) rfl)) ?_
 refine rl_v rfl rfl rfl (ov_fieldS rfl Try.underlying84 rfl (fo := 1) rfl (by kernel_rfl) rfl) ?_
 refine rl_v rfl rfl rfl (ov_load rfl Try.underlying3 rfl rfl (by exact hO5.cellL 1 rfl (off := 1) rfl)) ?_
 refine rl_v rfl rfl rfl (ov_buildA2 rfl Try.underlying89 zero_89 (by kernel_rfl) rfl rfl rfl rfl rfl) ?_
 refine rl_ow rfl (ow_storeW rfl rfl (by kernel_rfl) hO5 0 rfl rfl (by rfl) rfl (by rfl)) ?_
 rintro _ w7 ⟨rfl, hO8, hs9⟩
 refine rl_nil <| run_ret Try.func53 (resW Try.results53 rfl Try.underlying89 rfl (by kernel_rfl) hO8 0 rfl) ?_
 exact ⟨rfl, hO8.tail.tail⟩
theorem overlap7_any (a b c d : Int) (w : World) (h1 : 0 ≤ a ∧ a ≤ 1000000000) (h2 : 0 ≤ b ∧ b ≤ 1000000000) (h3 : 0 ≤ c ∧ c ≤ 1000000000) (h4 : 0 ≤ d ∧ d ≤ 1000000000) : Calls Try.prog 52 #[.agg #[iv a, iv b], .agg #[iv c, iv d]] w fun e w' => e = .returned (iv (ovl a b c d)) ∧ Own w.heap.size w w' [] := by
 refine calls_of_run (F := [(0, _), (1, _)]) Try.func52 rfl Try.ntmps52 rfl rfl ?_
 have hO0 := Own.init w
 refine run_seq <| run_region <| rl_ow rfl (ow_box _ rfl rfl rfl rfl rfl hO0) ?_
 rintro _ w1 ⟨b2, rfl, hO2, hs3⟩
 refine rl_ow rfl (ow_box _ rfl rfl rfl rfl rfl hO2) ?_
 rintro _ w4 ⟨b3, rfl, hO5, hs6⟩
 have hOb : Own w.heap.size w w4 [some (lch b3 89 [iv c, iv d]), some (lch b2 89 [iv a, iv b])] := hO5
 refine rl_v rfl rfl rfl (ov_assign rfl rfl) <| rl_nil <| run_seq <| run_region <| rl_v rfl rfl rfl (ov_indexA1 rfl Try.underlying89 (by kernel_rfl) rfl rfl ⟨by omega, by omega⟩) ?_
 refine rl_v rfl rfl rfl (ov_load rfl Try.underlying3 rfl rfl (by exact hOb.cellL 1 rfl (off := 1) rfl)) ?_
 refine rl_v rfl rfl rfl (ov_indexA1 rfl Try.underlying89 (by kernel_rfl) rfl rfl ⟨by omega, by omega⟩) ?_
 refine rl_v rfl rfl rfl (ov_load rfl Try.underlying3 rfl rfl (by exact hOb.cellL 0 rfl (off := 1) rfl)) ?_
 refine rl_v rfl rfl rfl (ov_min rfl rfl rfl) <| rl_v rfl rfl rfl (ov_indexA1 rfl Try.underlying89 (by kernel_rfl) rfl rfl ⟨by omega, by omega⟩) ?_
 refine rl_v rfl rfl rfl (ov_load rfl Try.underlying3 rfl rfl (by exact hOb.cellL 1 rfl (off := 0) rfl)) ?_
 refine rl_v rfl rfl rfl (ov_indexA1 rfl Try.underlying89 (by kernel_rfl) rfl rfl ⟨by omega, by omega⟩) ?_
 refine rl_v rfl rfl rfl (ov_load rfl Try.underlying3 rfl rfl (by exact hOb.cellL 0 rfl (off := 0) rfl)) ?_
 refine rl_v rfl rfl rfl (ov_max rfl rfl rfl) <| rl_v rfl rfl rfl (ov_sub rfl rfl rfl (by omega)) ?_
 refine rl_v rfl rfl rfl (ov_max rfl rfl rfl) <| rl_v rfl rfl rfl (ov_assign rfl rfl) <| rl_nil <| run_ret Try.func52 (res1 Try.results52 rfl) ?_
 exact ⟨rfl, hOb.tail.tail⟩
set_option maxHeartbeats 8000000 in
theorem proves7_any (la : Option Addr) (lc : Nat) (l : Lds) (k : Int) (xa : Option Addr) (xn xc : Nat) (ha : Option Addr) (hn hc : Nat) (Y A B : Int → Int) (w : World) (hnn : l.n ≤ 100000) (hI : l.I64) (hN : hn ≤ 1000000) (hX : xn ≤ 1000000)
  (hl : SAt w.heap.size w la 4 l.n (ldF l)) (hx : IAt w.heap.size w xa xn (fun j => iv (Y j))) (hh : SAt w.heap.size w ha 2 hn (hrF A B)) :
  Calls Try.prog 26 #[.slice la l.n lc, iv k, .agg (crL xa xn xc ha hn hc).toArray] w fun e w' => e = .returned (.bool (decide (l.chkK k = 0 ∧ Prv l k xn Y hn A B))) ∧ Own w.heap.size w w' [] := by
 obtain ⟨lb, lo, hla, hlr⟩ := hl.open (by decide)
 obtain ⟨hb, ho, hha, hhr⟩ := hh.open (by decide)
 obtain ⟨xb, xo, hxa, hxr⟩ := hx.open
 refine calls_of_run (F := [(0, _), (1, _), (2, _)]) Try.func26 rfl Try.ntmps26 rfl rfl ?_
 have hO0 := Own.init w
 refine run_seq <| run_region <| rl_ow rfl (ow_box _ rfl rfl rfl rfl rfl hO0) ?_
 rintro _ w1 ⟨b5, rfl, hO2, hs3⟩
 have hOb : Own w.heap.size w w1 [some (lch b5 58 (crL xa xn xc ha hn hc))] := hO2
 refine rl_v rfl rfl rfl (ov_assign rfl rfl) <| rl_nil <| run_seq <| run_seq <| run_region <| rl_v rfl rfl rfl (ov_move rfl rfl) <| rl_v rfl rfl rfl (ov_move rfl rfl) ?_
 refine rl_call callable_45 rfl rfl rfl rfl rfl rfl (checkKilns_any la lc l k _ hnn hI (hOb.satU hl)) (fun e4 w5 hp6 => ?_)
 obtain ⟨rfl, hOa⟩ := hp6
 refine ⟨_, rfl, ?_⟩
 have hO7 := hOb.join hOa
 refine rl_v rfl rfl rfl (ov_neq rfl rfl rfl) <| rl_nil ?_
 first | refine run_cond_dec rfl (fun c0 => ?_) (fun c0 => ?_) | refine run_cond rfl (fun c0 => ?_) (fun c0 => ?_)
 ·refine run_seq <| run_region <| rl_v rfl rfl rfl (ov_assign rfl rfl) <| rl_nil <| run_ret Try.func26 (res1 Try.results26 rfl) ?_
  exact ⟨by rw [decide_eq_false fun h => c0 h.1], hO7.tail⟩
 ·have c0' : l.chkK k = 0 := Classical.not_not.1 c0
  obtain ⟨hn2, hV, hk, hF⟩ := Lds.chkK_ne c0'
  refine run_skip <| run_seq <| run_region <| rl_v rfl rfl rfl (ov_assign rfl rfl) <| rl_v rfl rfl rfl (ov_assign rfl rfl) <| rl_nil <| run_seq <| run_seq <| run_region <| rl_v rfl rfl rfl (ov_fieldS rfl Try.underlying58 rfl (fo := 1) rfl (by kernel_rfl) rfl) ?_
  refine rl_v rfl rfl rfl (ov_load rfl Try.underlying48 rfl rfl (by exact hO7.cellL 0 rfl (off := 1) rfl)) ?_
  refine rl_v rfl rfl rfl (ov_len rfl Try.underlying48 rfl) <| rl_v rfl rfl rfl (ov_move rfl rfl) <| rl_nil <| run_block <| Run.keep [0, 1, 5, 7, 8, 23, 24, 25] (F' := [(0, _), (1, _), (5, _), (7, _), (8, _), (23, _), (24, _), (25, _)]) rfl <| run_loop3 (fun (i : Nat) (e : Int) (m : Int) => [(25, .int .i64 (i : Int)), (7, .int .i64 e), (8, .int .i64 m)]) [0, 1, 5, 23, 24] (fun (i : Nat) (e : Int) (m : Int) (w8 : World) => i ≤ hn ∧ m = sm (fun k => B k - A k) i ∧ (i = 0 → e = 0) ∧ (0 < i → e = B ((i : Int) - 1)) ∧ (∀ k : Int, 0 ≤ k → k < i → (0 ≤ A k ∧ A k < B k ∧ B k ≤ 1000000) ∧ (0 < k → B (k - 1) ≤ A k)) ∧ Own w.heap.size w w8 [some (lch b5 58 (crL xa xn xc ha hn hc))]) (fun (i : Nat) (e : Int) (m : Int) => hn - i) (0) (0) (0) ?_ (And.intro (by exact slot_int rfl (by first | omega)) (And.intro (by exact slot_int rfl (by first | omega)) (And.intro (by exact slot_int rfl (by first | omega)) (And.intro rfl (And.intro rfl (And.intro rfl (And.intro rfl (And.intro rfl trivial)))))))) ?_
  ·exact ⟨Nat.zero_le _, rfl, fun _ => rfl, fun h => by omega, fun j a b => by omega, hO7⟩
  intro i e m w8 hIw8 ih9
  obtain ⟨hi, hm, he0, he1, hA, hO1⟩ := hIw8
  show Run _ _ _ _ [(25, _), (7, _), (8, _), (0, _), (1, _), (5, _), (23, _), (24, _)] _ _
  refine run_seq <| run_region <| rl_v rfl rfl rfl (ov_lss rfl rfl rfl) <| rl_nil <| run_seq ?_
  first | refine run_cond_dec rfl (fun c1 => ?_) (fun c1 => ?_) | refine run_cond rfl (fun c1 => ?_) (fun c1 => ?_)
  ·have he2 : 0 ≤ e := by
    by_cases z : i = 0
    ·rw [he0 z]; exact Int.le_refl _
    ·have h1 := hA ((i : Int) - 1) (by omega) (by omega)
     have h2 := he1 (by omega)
     omega
   have he3 : 0 < (i : Int) → e = B ((i : Int) - 1) := fun h => he1 (by omega)
   have he4 : (i : Int) = 0 → e = 0 := fun h => he0 (by omega)
   refine run_skip <| run_seq <| run_block <| run_seq <| run_region <| rl_v rfl rfl rfl (ov_index rfl Try.underlying48 (by kernel_rfl) (s := 2) rfl rfl ⟨by omega, by omega⟩ (by exact hha (by omega))) ?_
   refine rl_v rfl rfl rfl (ov_loadE rfl Try.underlying89 rfl (by kernel_rfl) rfl ⟨by omega, by omega⟩ rfl (hhr _ hO1.below)) ?_
   refine rl_ow rfl (ow_alloc [iv 0, iv 0] rfl rfl rfl zero_89 rfl hO1) ?_
   rintro _ w10 ⟨t10, rfl, hO11, hs12⟩
   refine rl_ow rfl (ow_storeW rfl rfl (by kernel_rfl) hO11 0 rfl rfl (by rfl) rfl (by rfl)) ?_
   rintro _ w13 ⟨rfl, hO14, hs15⟩
   refine rl_nil <| run_seq <| run_seq <| run_region_join 44 (.bool (decide (¬ ((0 ≤ A i ∧ A i < B i ∧ B i ≤ 1000000) ∧ (0 < (i : Int) → B ((i : Int) - 1) ≤ A i))))) [0, 1, 5, 8, 10, 23, 24, 25] (fun hk16 => ?_) ?_
   ·refine rl_v rfl rfl rfl (ov_indexA1 rfl Try.underlying89 (by kernel_rfl) rfl rfl ⟨by omega, by omega⟩) ?_
    refine rl_v rfl rfl rfl (ov_load rfl Try.underlying3 rfl rfl (by exact hO14.cellL 0 rfl (off := 0) rfl)) ?_
    refine rl_v rfl rfl rfl (ov_move rfl rfl) <| rl_v rfl rfl rfl (ov_lss rfl rfl rfl) <| rl_v rfl rfl rfl (ov_move rfl rfl) ?_
    first | refine rl_split_dec 33 rfl (fun hg17 => ?_) (fun hg17 => ?_) | refine rl_split 33 rfl (fun hg17 => ?_) (fun hg17 => ?_)
    ·refine rl_gskip rfl rfl rfl rfl rfl rfl <| rl_gskip rfl rfl rfl rfl rfl rfl <| rl_gskip rfl rfl rfl rfl rfl rfl <| rl_gskip rfl rfl rfl rfl rfl rfl <| rl_gskip rfl rfl rfl rfl rfl rfl <| rl_v rfl rfl rfl (ov_pick_t rfl rfl rfl) <| rl_v rfl rfl rfl (ov_move rfl rfl) <| rl_gskip rfl rfl rfl rfl rfl rfl <| rl_gskip rfl rfl rfl rfl rfl rfl <| rl_gskip rfl rfl rfl rfl rfl rfl <| rl_v rfl rfl rfl (ov_pick_t rfl rfl rfl) ?_
     refine rl_nil (hk16 _ (jbt rfl (by omega)) (And.intro rfl (And.intro rfl (And.intro rfl (And.intro rfl (And.intro rfl (And.intro rfl (And.intro rfl (And.intro rfl trivial)))))))))
    ·refine rl_gv rfl rfl rfl rfl rfl (ov_indexA1 rfl Try.underlying89 (by kernel_rfl) rfl rfl ⟨by omega, by omega⟩) ?_
     refine rl_gv rfl rfl rfl rfl rfl (ov_load rfl Try.underlying3 rfl rfl (by exact hO14.cellL 0 rfl (off := 1) rfl)) ?_
     refine rl_gv rfl rfl rfl rfl rfl (ov_indexA1 rfl Try.underlying89 (by kernel_rfl) rfl rfl ⟨by omega, by omega⟩) ?_
     refine rl_gv rfl rfl rfl rfl rfl (ov_load rfl Try.underlying3 rfl rfl (by exact hO14.cellL 0 rfl (off := 0) rfl)) ?_
     refine rl_gv rfl rfl rfl rfl rfl (ov_leq rfl rfl rfl) <| rl_v rfl rfl rfl (ov_pick_f rfl rfl rfl) <| rl_v rfl rfl rfl (ov_move rfl rfl) ?_
     first | refine rl_split_dec 40 rfl (fun hg18 => ?_) (fun hg18 => ?_) | refine rl_split 40 rfl (fun hg18 => ?_) (fun hg18 => ?_)
     ·refine rl_gskip rfl rfl rfl rfl rfl rfl <| rl_gskip rfl rfl rfl rfl rfl rfl <| rl_gskip rfl rfl rfl rfl rfl rfl <| rl_v rfl rfl rfl (ov_pick_t rfl rfl rfl) ?_
      refine rl_nil (hk16 _ (jbt rfl (by omega)) (And.intro rfl (And.intro rfl (And.intro rfl (And.intro rfl (And.intro rfl (And.intro rfl (And.intro rfl (And.intro rfl trivial)))))))))
     ·refine rl_gv rfl rfl rfl rfl rfl (ov_indexA1 rfl Try.underlying89 (by kernel_rfl) rfl rfl ⟨by omega, by omega⟩) ?_
      refine rl_gv rfl rfl rfl rfl rfl (ov_load rfl Try.underlying3 rfl rfl (by exact hO14.cellL 0 rfl (off := 1) rfl)) ?_
      refine rl_gv rfl rfl rfl rfl rfl (ov_gtr rfl rfl rfl) <| rl_v rfl rfl rfl (ov_pick_f rfl rfl rfl) ?_
      refine rl_nil (hk16 _ (jbd rfl (by omega)) (And.intro rfl (And.intro rfl (And.intro rfl (And.intro rfl (And.intro rfl (And.intro rfl (And.intro rfl (And.intro rfl trivial)))))))))
   ·show Run _ _ _ _ [(44, _), (0, _), (1, _), (5, _), (8, _), (10, _), (23, _), (24, _), (25, _)] _ _
    first | refine run_cond_dec rfl (fun c2 => ?_) (fun c2 => ?_) | refine run_cond rfl (fun c2 => ?_) (fun c2 => ?_)
    ·refine run_seq <| run_region <| rl_v rfl rfl rfl (ov_assign rfl rfl) <| rl_nil <| run_ret Try.func26 (res1 Try.results26 rfl) ?_
     exact ⟨by rw [decide_eq_false fun h => c2 (h.2.hrs i (by omega) c1)], hO14.sub (List.nil_sublist _)⟩
    ·have c2' : (0 ≤ A i ∧ A i < B i ∧ B i ≤ 1000000) ∧ (0 < (i : Int) → B ((i : Int) - 1) ≤ A i) := Classical.not_not.1 c2
     have hA2 : ∀ k : Int, 0 ≤ k → k < ((i + 1 : Nat) : Int) → (0 ≤ A k ∧ A k < B k ∧ B k ≤ 1000000) ∧ (0 < k → B (k - 1) ≤ A k) := fun k k0 k1 => by
      by_cases e : k = (i : Int)
      ·rw [e]; exact c2'
      ·exact hA k k0 (by omega)
     have hm0 : 0 ≤ m := by rw [hm]; exact sm_nonneg fun a a0 a1 => by have := (hA a a0 a1).1; omega
     have hm1 : m ≤ i * 1000000 := by rw [hm]; exact sm_bound _ (by omega) fun a a0 a1 => by have := (hA a a0 a1).1; omega
     have hms : m + B i - A i = sm (fun k => B k - A k) ((i + 1 : Nat) : Int) := by
      rw [show ((i + 1 : Nat) : Int) = (i : Int) + 1 by omega, sm_succ _ (by omega), ← hm]; omega
     refine run_skip <| run_quiet mixed (by kernel_rfl) ?_
     refine rq_v rfl rfl rfl (fun _ => ov_indexA1 rfl Try.underlying89 (by kernel_rfl) rfl rfl ⟨by omega, by omega⟩) ?_
     refine rq_v rfl rfl rfl (fun _ => ov_load rfl Try.underlying3 rfl rfl (by show World.cell? w13 _ = _; first | exact hO14.cellL 0 rfl (off := 1) rfl)) ?_
     refine rq_v rfl rfl rfl (fun _ => ov_move rfl rfl) ?_
     refine rq_v rfl rfl rfl (fun _ => ov_indexA1 rfl Try.underlying89 (by kernel_rfl) rfl rfl ⟨by omega, by omega⟩) ?_
     refine rq_v rfl rfl rfl (fun _ => ov_load rfl Try.underlying3 rfl rfl (by show World.cell? w13 _ = _; first | exact hO14.cellL 0 rfl (off := 1) rfl)) ?_
     refine rq_v rfl rfl rfl (fun _ => ov_add rfl rfl rfl (by omega)) ?_
     refine rq_v rfl rfl rfl (fun _ => ov_indexA1 rfl Try.underlying89 (by kernel_rfl) rfl rfl ⟨by omega, by omega⟩) ?_
     refine rq_v rfl rfl rfl (fun _ => ov_load rfl Try.underlying3 rfl rfl (by show World.cell? w13 _ = _; first | exact hO14.cellL 0 rfl (off := 0) rfl)) ?_
     refine rq_v rfl rfl rfl (fun _ => ov_sub rfl rfl rfl (by omega)) ?_
     refine rq_v rfl rfl rfl (fun _ => ov_assign rfl rfl) ?_
     refine rq_v rfl rfl rfl (fun _ => ov_assign rfl rfl) ?_
     refine rq_nil (fun n19 => ?_)
     have hO21 := hO14.drewN n19
     generalize World.drewN w13 n19 = w20 at hO21 ⊢
     refine run_inBlock <| run_region <| rl_v rfl rfl rfl (ov_add rfl rfl rfl (by omega)) ?_
     refine rl_v rfl rfl rfl (ov_move rfl rfl) <| rl_nil ?_
     refine Run.use (ih9 (i + 1) (B i) (m + B i - A i) _ ?_ ?_) (And.intro (by exact slot_int rfl (by first | omega)) (And.intro (by exact slot_int rfl (by first | omega)) (And.intro (by exact slot_int rfl (by first | omega)) (And.intro rfl (And.intro rfl (And.intro rfl (And.intro rfl (And.intro rfl trivial))))))))
     ·first | omega | (dsimp only; omega)
     ·exact ⟨by omega, hms, fun h => by omega, fun _ => by rw [show ((i + 1 : Nat) : Int) - 1 = (i : Int) by omega], hA2, hO21.tail⟩
  ·have hin : i = hn := by omega
   rw [hin] at hm hA
   have hm0 : 0 ≤ m := by rw [hm]; exact sm_nonneg fun a a0 a1 => by have := (hA a a0 a1).1; omega
   have hm1 : m ≤ hn * 1000000 := by rw [hm]; exact sm_bound _ (by omega) fun a a0 a1 => by have := (hA a a0 a1).1; omega
   refine run_exit rfl <| run_seq <| run_region <| rl_v rfl rfl rfl (ov_move rfl rfl) <| rl_v rfl rfl rfl (ov_len rfl Try.underlying27 rfl) ?_
   refine rl_make (l.n) rfl rfl rfl rfl Try.underlying78 info_4 rfl hO1 rfl rfl (by rfl) (by rfl) ⟨by omega, by omega⟩ (fun sb w22 hO23 hs24 => ?_)
   have hOs := hO23.congrI 0 rfl (G' := fun j => .bool (sn7 Y ((0 : Nat) : Int) j)) (fun v _ _ => congrArg Value.bool (sn7_zero Y v).symm)
   refine rl_v rfl rfl rfl (ov_assign rfl rfl) <| rl_nil <| run_seq <| run_region <| rl_v rfl rfl rfl (ov_assign rfl rfl) <| rl_nil <| run_seq <| run_seq <| run_region <| rl_v rfl rfl rfl (ov_fieldS rfl Try.underlying58 rfl (fo := 0) rfl (by kernel_rfl) rfl) ?_
   refine rl_v rfl rfl rfl (ov_load rfl Try.underlying47 rfl rfl (by exact hOs.cellL 1 rfl (off := 0) rfl)) ?_
   refine rl_v rfl rfl rfl (ov_len rfl Try.underlying47 rfl) <| rl_v rfl rfl rfl (ov_move rfl rfl) <| rl_nil <| run_block <| Run.keep [0, 1, 5, 8, 11, 12, 59, 60, 61] (F' := [(0, _), (1, _), (5, _), (8, _), (11, _), (12, _), (59, _), (60, _), (61, _)]) rfl <| run_loop2 (fun (c : Nat) (s : Int) => [(61, .int .i64 (c : Int)), (12, .int .i64 s)]) [0, 1, 5, 8, 11, 59, 60] (fun (c : Nat) (s : Int) (w25 : World) => c ≤ xn ∧ s = sm (fun j => max 0 (l.len (Y j) - (l.d (Y j) - l.r (Y j) - wthn l hn A B (Y j)))) c ∧ (0 ≤ s ∧ s ≤ c * 2000000000000000) ∧ (∀ j : Int, 0 ≤ j → j < c → 0 ≤ Y j ∧ Y j < l.n) ∧ (∀ a b : Int, 0 ≤ a → a < b → b < c → Y a ≠ Y b) ∧ Own w.heap.size w w25 [some (vch sb 4 l.n (fun j => .bool (sn7 Y c j))), some (lch b5 58 (crL xa xn xc ha hn hc))]) (fun (c : Nat) (s : Int) => xn - c) (0) (0) ?_ (And.intro (by exact slot_int rfl (by first | omega)) (And.intro (by exact slot_int rfl (by first | omega)) (And.intro rfl (And.intro rfl (And.intro rfl (And.intro rfl (And.intro rfl (And.intro rfl (And.intro rfl trivial))))))))) ?_
   ·exact ⟨Nat.zero_le _, rfl, by omega, fun j a b => by omega, fun a b c d e => by omega, hOs⟩
   intro c s w25 hIw25 ih26
   obtain ⟨hc0, hs, hs1, hL, hU, hO2⟩ := hIw25
   show Run _ _ _ _ [(61, _), (12, _), (0, _), (1, _), (5, _), (8, _), (11, _), (59, _), (60, _)] _ _
   refine run_seq <| run_region <| rl_v rfl rfl rfl (ov_lss rfl rfl rfl) <| rl_nil <| run_seq ?_
   first | refine run_cond_dec rfl (fun c3 => ?_) (fun c3 => ?_) | refine run_cond rfl (fun c3 => ?_) (fun c3 => ?_)
   ·have hdec : Decidable (Y c < 0 ∨ (l.n : Int) ≤ Y c ∨ (∃ a : Int, (0 ≤ a ∧ a < c) ∧ Y a = Y c)) := Classical.propDecidable _
    refine run_skip <| run_seq <| run_block <| run_seq <| run_region <| rl_v rfl rfl rfl (ov_index1 rfl Try.underlying47 (by kernel_rfl) rfl rfl ⟨by omega, by omega⟩ (by exact hxa (by omega))) ?_
    refine rl_v rfl rfl rfl (ov_load rfl Try.underlying3 rfl rfl (by exact hxr _ hO2.below c (by omega) c3)) ?_
    refine rl_v rfl rfl rfl (ov_assign rfl rfl) <| rl_nil <| run_seq <| run_seq <| run_region_join 78 (.bool (decide (Y c < 0 ∨ (l.n : Int) ≤ Y c ∨ (∃ a : Int, (0 ≤ a ∧ a < c) ∧ Y a = Y c)))) [0, 1, 5, 8, 11, 12, 14, 59, 60, 61] (fun hk27 => ?_) ?_
    ·refine rl_v rfl rfl rfl (ov_move rfl rfl) <| rl_v rfl rfl rfl (ov_lss rfl rfl rfl) <| rl_v rfl rfl rfl (ov_move rfl rfl) ?_
     first | refine rl_split_dec 67 rfl (fun hg28 => ?_) (fun hg28 => ?_) | refine rl_split 67 rfl (fun hg28 => ?_) (fun hg28 => ?_)
     ·refine rl_gskip rfl rfl rfl rfl rfl rfl <| rl_gskip rfl rfl rfl rfl rfl rfl <| rl_gskip rfl rfl rfl rfl rfl rfl <| rl_gskip rfl rfl rfl rfl rfl rfl <| rl_v rfl rfl rfl (ov_pick_t rfl rfl rfl) <| rl_v rfl rfl rfl (ov_move rfl rfl) <| rl_gskip rfl rfl rfl rfl rfl rfl <| rl_gskip rfl rfl rfl rfl rfl rfl <| rl_gskip rfl rfl rfl rfl rfl rfl <| rl_gskip rfl rfl rfl rfl rfl rfl <| rl_v rfl rfl rfl (ov_pick_t rfl rfl rfl) ?_
      refine rl_nil (hk27 _ (jbt rfl (by exact .inl (by omega))) (And.intro rfl (And.intro rfl (And.intro rfl (And.intro rfl (And.intro rfl (And.intro rfl (And.intro rfl (And.intro rfl (And.intro rfl (And.intro rfl trivial)))))))))))
     ·refine rl_gv rfl rfl rfl rfl rfl (ov_move rfl rfl) <| rl_gv rfl rfl rfl rfl rfl (ov_move rfl rfl) <| rl_gv rfl rfl rfl rfl rfl (ov_len rfl Try.underlying27 rfl) <| rl_gv rfl rfl rfl rfl rfl (ov_geq rfl rfl rfl) <| rl_v rfl rfl rfl (ov_pick_f rfl rfl rfl) <| rl_v rfl rfl rfl (ov_move rfl rfl) ?_
      first | refine rl_split_dec 73 rfl (fun hg29 => ?_) (fun hg29 => ?_) | refine rl_split 73 rfl (fun hg29 => ?_) (fun hg29 => ?_)
      ·refine rl_gskip rfl rfl rfl rfl rfl rfl <| rl_gskip rfl rfl rfl rfl rfl rfl <| rl_gskip rfl rfl rfl rfl rfl rfl <| rl_gskip rfl rfl rfl rfl rfl rfl <| rl_v rfl rfl rfl (ov_pick_t rfl rfl rfl) ?_
       refine rl_nil (hk27 _ (jbt rfl (by exact .inr (.inl (by omega)))) (And.intro rfl (And.intro rfl (And.intro rfl (And.intro rfl (And.intro rfl (And.intro rfl (And.intro rfl (And.intro rfl (And.intro rfl (And.intro rfl trivial)))))))))))
      ·refine rl_gv rfl rfl rfl rfl rfl (ov_move rfl rfl) <| rl_gv rfl rfl rfl rfl rfl (ov_move rfl rfl) <| rl_gv rfl rfl rfl rfl rfl (ov_index1 rfl Try.underlying78 (by kernel_rfl) rfl rfl ⟨by omega, by omega⟩ (by rfl)) ?_
       refine rl_gv rfl rfl rfl rfl rfl (ov_load rfl Try.underlying4 rfl rfl (by exact hO2.cellI 0 rfl (Y c) (by omega) (by omega))) ?_
       refine rl_v rfl rfl rfl (ov_pick_f rfl rfl rfl) ?_
       refine rl_nil (hk27 _ (jbd rfl (by exact ⟨fun h => .inr (.inr h), fun h => (h.resolve_left (by omega)).resolve_left (by omega)⟩)) (And.intro rfl (And.intro rfl (And.intro rfl (And.intro rfl (And.intro rfl (And.intro rfl (And.intro rfl (And.intro rfl (And.intro rfl (And.intro rfl trivial)))))))))))
    ·show Run _ _ _ _ [(78, _), (0, _), (1, _), (5, _), (8, _), (11, _), (12, _), (14, _), (59, _), (60, _), (61, _)] _ _
     first | refine run_cond_dec rfl (fun c4 => ?_) (fun c4 => ?_) | refine run_cond rfl (fun c4 => ?_) (fun c4 => ?_)
     ·refine run_seq <| run_region <| rl_v rfl rfl rfl (ov_assign rfl rfl) <| rl_nil <| run_ret Try.func26 (res1 Try.results26 rfl) ?_
      exact ⟨by rw [decide_eq_false fun h => by have h1 := h.2.lds c (by omega) c3; rcases c4 with e | e | ⟨a, ha, e⟩; exact absurd h1.1 (by omega); exact absurd h1.2 (by omega); exact h.2.uni a c ha.1 ha.2 c3 e], hO2.sub (List.nil_sublist _)⟩
     ·have hv : 0 ≤ Y c ∧ Y c < l.n := ⟨Classical.byContradiction fun h => c4 (.inl (by omega)), Classical.byContradiction fun h => c4 (.inr (.inl (by omega)))⟩
      have hL2 : ∀ j : Int, 0 ≤ j → j < ((c + 1 : Nat) : Int) → 0 ≤ Y j ∧ Y j < l.n := fun j j0 j1 => by
       by_cases e : j = (c : Int)
       ·rw [e]; exact hv
       ·exact hL j j0 (by omega)
      have hU2 : ∀ a b : Int, 0 ≤ a → a < b → b < ((c + 1 : Nat) : Int) → Y a ≠ Y b := fun a b a0 ab b1 => by
       by_cases e : b = (c : Int)
       ·rw [e]; exact fun h => c4 (.inr (.inr ⟨a, ⟨a0, by omega⟩, h⟩))
       ·exact hU a b a0 ab (by omega)
      have hcn : c ≤ l.n := pigeonG (fun k k0 k1 => hL k k0 k1) (fun a b a0 a1 b0 b1 e => by
       rcases Int.lt_trichotomy a b with d | d | d
       ·exact absurd e (hU a b a0 d b1)
       ·exact d
       ·exact absurd e.symm (hU b a b0 d a1))
      have hd0 := hV (Y c) hv.1 hv.2
      unfold Lds.Val at hd0
      refine run_skip <| run_seq <| run_region <| rl_v rfl rfl rfl (ov_move rfl rfl) <| rl_v rfl rfl rfl (ov_move rfl rfl) <| rl_v rfl rfl rfl (ov_index1 rfl Try.underlying78 (by kernel_rfl) rfl rfl ⟨by omega, by omega⟩ (by rfl)) ?_
      refine rl_ow rfl (ow_store rfl rfl (by kernel_rfl) hO2 0 rfl rfl ⟨by omega, by omega⟩ rfl rfl) ?_
      rintro _ w30 ⟨rfl, hO31, hs32⟩
      have hOt := hO31.congrI 0 rfl (G' := fun j => .bool (sn7 Y ((c + 1 : Nat) : Int) j)) (fun j _ _ => (sn7_step Y c j).symm)
      refine rl_nil <| run_seq <| run_quiet mixed (by kernel_rfl) ?_
      refine rq_v rfl rfl rfl (fun _ => ov_move rfl rfl) ?_
      refine rq_v rfl rfl rfl (fun _ => ov_move rfl rfl) ?_
      refine rq_v rfl rfl rfl (fun _ => ov_index rfl Try.underlying27 (by kernel_rfl) (s := 4) rfl rfl ⟨by omega, by omega⟩ (by exact hla (by omega))) ?_
      refine rq_v rfl rfl rfl (fun _ => ov_fieldS rfl Try.underlying84 rfl (fo := 1) rfl (by kernel_rfl) rfl) ?_
      refine rq_v rfl rfl rfl (fun _ => ov_load rfl Try.underlying3 rfl rfl (by show World.cell? w30 _ = _; first | exact hlr _ hOt.below (Y c) (by omega) (by omega) 1 (by decide))) ?_
      refine rq_v rfl rfl rfl (fun _ => ov_move rfl rfl) ?_
      refine rq_v rfl rfl rfl (fun _ => ov_move rfl rfl) ?_
      refine rq_v rfl rfl rfl (fun _ => ov_index rfl Try.underlying27 (by kernel_rfl) (s := 4) rfl rfl ⟨by omega, by omega⟩ (by exact hla (by omega))) ?_
      refine rq_v rfl rfl rfl (fun _ => ov_fieldS rfl Try.underlying84 rfl (fo := 0) rfl (by kernel_rfl) rfl) ?_
      refine rq_v rfl rfl rfl (fun _ => ov_load rfl Try.underlying3 rfl rfl (by show World.cell? w30 _ = _; first | exact hlr _ hOt.below (Y c) (by omega) (by omega) 0 (by decide))) ?_
      refine rq_v rfl rfl rfl (fun _ => ov_sub rfl rfl rfl (by omega)) ?_
      refine rq_v rfl rfl rfl (fun _ => ov_assign rfl rfl) ?_
      refine rq_nil (fun n33 => ?_)
      have hO35 := hOt.drewN n33
      generalize World.drewN w30 n33 = w34 at hO35 ⊢
      refine run_seq <| run_seq <| run_region <| rl_v rfl rfl rfl (ov_fieldS rfl Try.underlying58 rfl (fo := 1) rfl (by kernel_rfl) rfl) ?_
      refine rl_v rfl rfl rfl (ov_load rfl Try.underlying48 rfl rfl (by exact hO35.cellL 1 rfl (off := 1) rfl)) ?_
      refine rl_v rfl rfl rfl (ov_len rfl Try.underlying48 rfl) <| rl_v rfl rfl rfl (ov_move rfl rfl) <| rl_nil <| run_block <| Run.keep [0, 1, 5, 8, 11, 12, 14, 15, 59, 60, 61, 94, 95, 96] (F' := [(0, _), (1, _), (5, _), (8, _), (11, _), (12, _), (14, _), (15, _), (59, _), (60, _), (61, _), (94, _), (95, _), (96, _)]) rfl <| run_loop2 (fun (q : Nat) (o : Int) => [(96, .int .i64 (q : Int)), (15, .int .i64 o)]) [0, 1, 5, 8, 11, 12, 14, 59, 60, 61, 94, 95] (fun (q : Nat) (o : Int) (w36 : World) => q ≤ hn ∧ o = l.d (Y c) - l.r (Y c) - sm (fun k => ovl (A k) (B k) (l.r (Y c)) (l.d (Y c))) q ∧ Own w.heap.size w w36 [some (vch sb 4 l.n (fun j => .bool (sn7 Y ((c + 1 : Nat) : Int) j))), some (lch b5 58 (crL xa xn xc ha hn hc))]) (fun (q : Nat) (o : Int) => hn - q) (0) (l.d (Y c) - l.r (Y c)) ?_ (And.intro (by exact slot_int rfl (by first | omega)) (And.intro (by exact slot_int rfl (by first | omega)) (And.intro rfl (And.intro rfl (And.intro rfl (And.intro rfl (And.intro rfl (And.intro rfl (And.intro rfl (And.intro rfl (And.intro rfl (And.intro rfl (And.intro rfl (And.intro rfl trivial)))))))))))))) ?_
      ·exact ⟨Nat.zero_le _, by show _ = l.d (Y c) - l.r (Y c) - 0; omega, hO35⟩
      intro q o w36 hIw36 ih37
      obtain ⟨hq, ho, hO3⟩ := hIw36
      show Run _ _ _ _ [(96, _), (15, _), (0, _), (1, _), (5, _), (8, _), (11, _), (12, _), (14, _), (59, _), (60, _), (61, _), (94, _), (95, _)] _ _
      refine run_seq <| run_region <| rl_v rfl rfl rfl (ov_lss rfl rfl rfl) <| rl_nil <| run_seq ?_
      first | refine run_cond_dec rfl (fun c5 => ?_) (fun c5 => ?_) | refine run_cond rfl (fun c5 => ?_) (fun c5 => ?_)
      ·have hAq := (hA q (by omega) c5).1
       have ho0 : 0 ≤ sm (fun k => ovl (A k) (B k) (l.r (Y c)) (l.d (Y c))) q := sm_nonneg fun a _ _ => by unfold ovl; omega
       have ho1 : sm (fun k => ovl (A k) (B k) (l.r (Y c)) (l.d (Y c))) q ≤ q * 1000000000 := sm_bound _ (by omega) fun a a0 a1 => by have := (hA a a0 (by omega)).1; unfold ovl; omega
       have ho2 : 0 ≤ ovl (A q) (B q) (l.r (Y c)) (l.d (Y c)) ∧ ovl (A q) (B q) (l.r (Y c)) (l.d (Y c)) ≤ 1000000000 := by unfold ovl; omega
       have hos : o - ovl (A q) (B q) (l.r (Y c)) (l.d (Y c)) = l.d (Y c) - l.r (Y c) - sm (fun k => ovl (A k) (B k) (l.r (Y c)) (l.d (Y c))) ((q + 1 : Nat) : Int) := by
        rw [show ((q + 1 : Nat) : Int) = (q : Int) + 1 by omega, sm_succ _ (by omega)]; omega
       refine run_skip <| run_seq <| run_block <| run_seq <| run_region <| rl_v rfl rfl rfl (ov_index rfl Try.underlying48 (by kernel_rfl) (s := 2) rfl rfl ⟨by omega, by omega⟩ (by exact hha (by omega))) ?_
       refine rl_v rfl rfl rfl (ov_loadE rfl Try.underlying89 rfl (by kernel_rfl) rfl ⟨by omega, by omega⟩ rfl (hhr _ hO3.below)) ?_
       refine rl_ow rfl (ow_alloc [iv 0, iv 0] rfl rfl rfl zero_89 rfl hO3) ?_
       rintro _ w38 ⟨t17, rfl, hO39, hs40⟩
       refine rl_ow rfl (ow_storeW rfl rfl (by kernel_rfl) hO39 0 rfl rfl (by rfl) rfl (by rfl)) ?_
       rintro _ w41 ⟨rfl, hO42, hs43⟩
       have hOq : Own w.heap.size w w41 [some (lch t17 89 [iv (A q), iv (B q)]), some (vch sb 4 l.n (fun j => .bool (sn7 Y ((c + 1 : Nat) : Int) j))), some (lch b5 58 (crL xa xn xc ha hn hc))] := hO42
       refine rl_nil <| run_held (fun w' => Own w.heap.size w w' ([some (lch t17 89 [iv (A q), iv (B q)])])) mixed ?_
       have hO45 := hOq.drew
       generalize World.drew w41 = w44 at hO45 ⊢
       have hS46 : Own w.heap.size w w44 ([some (lch t17 89 [iv (A q), iv (B q)])]) := by exact hO45.sub (.cons_cons _ (List.nil_sublist _))
       refine rh_v 0 rfl (by kernel_rfl) rfl rfl rfl hS46 (fun _ hS => ov_move rfl rfl) ?_
       refine rh_v 1 rfl (by kernel_rfl) rfl rfl rfl hS46 (fun _ hS => ov_loadW rfl Try.underlying89 rfl (by kernel_rfl) rfl hS 0 rfl) ?_
       refine rh_v 2 rfl (by kernel_rfl) rfl rfl rfl hS46 (fun _ hS => ov_move rfl rfl) ?_
       refine rh_v 3 rfl (by kernel_rfl) rfl rfl rfl hS46 (fun _ hS => ov_move rfl rfl) ?_
       refine rh_v 4 rfl (by kernel_rfl) rfl rfl rfl hS46 (fun _ hS => ov_index rfl Try.underlying27 (by kernel_rfl) (s := 4) rfl rfl ⟨by omega, by omega⟩ (by exact hla (by omega))) ?_
       refine rh_v 5 rfl (by kernel_rfl) rfl rfl rfl hS46 (fun _ hS => ov_loadE rfl Try.underlying84 rfl (by kernel_rfl) rfl ⟨by omega, by omega⟩ rfl (hlr _ hS.below)) ?_
       refine rh_any1 6 (by kernel_rfl) ?_
       refine rc_op rfl rfl (ow_call2 callable_53 rfl rfl rfl rfl rfl (window7_any l (Y c) _) (by intro e w' hp; obtain ⟨rfl, hO8⟩ := hp; exact ⟨_, rfl⟩)) ?_
       rintro _ w49 ⟨_, v47, he50, rfl, hp48⟩
       obtain ⟨rfl, hO8⟩ := hp48
       injection he50 with he50; subst he50
       have hO51 := hO45.join hO8
       have hS52 : Own w.heap.size w w49 ([some (lch t17 89 [iv (A q), iv (B q)])]) := by exact hO51.sub (.cons_cons _ (List.nil_sublist _))
       refine ⟨hS52, ?_⟩
       refine rh_any1 7 (by kernel_rfl) ?_
       refine rc_op rfl rfl (ow_call2 callable_52 rfl rfl rfl rfl rfl (overlap7_any (A q) (B q) (l.r (Y c)) (l.d (Y c)) _ (by omega) (by omega) (by omega) (by omega)) (by intro e w' hp; obtain ⟨rfl, hO9⟩ := hp; exact ⟨_, rfl⟩)) ?_
       rintro _ w55 ⟨_, v53, he56, rfl, hp54⟩
       obtain ⟨rfl, hO9⟩ := hp54
       injection he56 with he56; subst he56
       have hO57 := hO51.join hO9
       have hS58 : Own w.heap.size w w55 ([some (lch t17 89 [iv (A q), iv (B q)])]) := by exact hO57.sub (.cons_cons _ (List.nil_sublist _))
       refine ⟨hS58, ?_⟩
       refine rh_v 8 rfl (by kernel_rfl) rfl rfl rfl hS58 (fun _ hS => ov_sub rfl rfl rfl (by omega)) ?_
       refine rh_v 9 rfl (by kernel_rfl) rfl rfl rfl hS58 (fun _ hS => ov_assign rfl rfl) ?_
       refine rh_done (by kernel_rfl) ?_
       refine run_inBlock <| run_region <| rl_v rfl rfl rfl (ov_add rfl rfl rfl (by omega)) ?_
       refine rl_v rfl rfl rfl (ov_move rfl rfl) <| rl_nil ?_
       refine Run.use (ih37 (q + 1) (o - ovl (A q) (B q) (l.r (Y c)) (l.d (Y c))) _ ?_ ?_) (And.intro (by exact slot_int rfl (by first | omega)) (And.intro (by exact slot_int rfl (by first | omega)) (And.intro rfl (And.intro rfl (And.intro rfl (And.intro rfl (And.intro rfl (And.intro rfl (And.intro rfl (And.intro rfl (And.intro rfl (And.intro rfl (And.intro rfl (And.intro rfl trivial))))))))))))))
       ·first | omega | (dsimp only; omega)
       ·exact ⟨by omega, hos, hO57.tail⟩
      ·have hqn : q = hn := by omega
       rw [hqn] at ho
       have how : o = l.d (Y c) - l.r (Y c) - wthn l hn A B (Y c) := ho
       have hw0 : 0 ≤ wthn l hn A B (Y c) := sm_nonneg fun a _ _ => by unfold ovl; omega
       have hw1 : wthn l hn A B (Y c) ≤ hn * 1000000000 := sm_bound _ (by omega) fun a a0 a1 => by have := (hA a a0 a1).1; unfold ovl; omega
       have hss : s + max 0 (l.len (Y c) - o) = sm (fun j => max 0 (l.len (Y j) - (l.d (Y j) - l.r (Y j) - wthn l hn A B (Y j)))) ((c + 1 : Nat) : Int) := by
        rw [show ((c + 1 : Nat) : Int) = (c : Int) + 1 by omega, sm_succ _ (by omega), ← hs, how]
       refine run_exit rfl <| run_region <| rl_v rfl rfl rfl (ov_move rfl rfl) <| rl_v rfl rfl rfl (ov_move rfl rfl) <| rl_v rfl rfl rfl (ov_move rfl rfl) <| rl_v rfl rfl rfl (ov_index rfl Try.underlying27 (by kernel_rfl) (s := 4) rfl rfl ⟨by omega, by omega⟩ (by exact hla (by omega))) ?_
       refine rl_v rfl rfl rfl (ov_fieldS rfl Try.underlying84 rfl (fo := 2) rfl (by kernel_rfl) rfl) ?_
       refine rl_v rfl rfl rfl (ov_load rfl Try.underlying3 rfl rfl (by exact hlr _ hO3.below (Y c) (by omega) (by omega) 2 (by decide))) ?_
       refine rl_v rfl rfl rfl (ov_move rfl rfl) <| rl_v rfl rfl rfl (ov_sub rfl rfl rfl (by omega)) ?_
       refine rl_v rfl rfl rfl (ov_max rfl rfl rfl) <| rl_v rfl rfl rfl (ov_add rfl rfl rfl (by omega)) ?_
       refine rl_v rfl rfl rfl (ov_assign rfl rfl) <| rl_nil <| run_inBlock <| run_region <| rl_v rfl rfl rfl (ov_add rfl rfl rfl (by omega)) ?_
       refine rl_v rfl rfl rfl (ov_move rfl rfl) <| rl_nil ?_
       refine Run.use (ih26 (c + 1) (s + max 0 (l.len (Y c) - o)) _ ?_ ?_) (And.intro (by exact slot_int rfl (by first | omega)) (And.intro (by exact slot_int rfl (by first | omega)) (And.intro rfl (And.intro rfl (And.intro rfl (And.intro rfl (And.intro rfl (And.intro rfl (And.intro rfl trivial)))))))))
       ·first | omega | (dsimp only; omega)
       ·exact ⟨by omega, hss, by omega, hL2, hU2, hO3⟩
   ·have hcx : c = xn := by omega
    rw [hcx] at hs hL hU
    have hmk := mulb (show 0 ≤ k by omega) (show k ≤ 1000 by omega) hm0 (show m ≤ 1000000000000 by omega)
    refine run_exit rfl <| run_seq <| run_region <| rl_v rfl rfl rfl (ov_move rfl rfl) <| rl_v rfl rfl rfl (ov_move rfl rfl) <| rl_v rfl rfl rfl (ov_move rfl rfl) <| rl_v rfl rfl rfl (ov_mul rfl rfl rfl (by rw [Int.mul_comm]; omega)) ?_
    refine rl_v rfl rfl rfl (ov_gtr rfl rfl rfl) <| rl_v rfl rfl rfl (ov_assign rfl rfl) <| rl_nil <| run_ret Try.func26 (res1 Try.results26 rfl) ?_
    exact ⟨by rw [decide_eq_decide.2 (show (l.chkK k = 0 ∧ Prv l k xn Y hn A B) ↔ m * k < s from ⟨fun h => by have := h.2.big; rw [← hm, ← hs] at this; exact this, fun h => ⟨c0', hA, hL, hU, by rw [← hm, ← hs]; exact h⟩⟩)], hO2.sub (List.nil_sublist _)⟩
end Go.Proofs.Ytbepolognfdkeaa
