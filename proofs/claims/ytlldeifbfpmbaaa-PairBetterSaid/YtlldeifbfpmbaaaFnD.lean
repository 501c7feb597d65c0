import Derived.Test.YtlldeifbfpmbaaaFnD0
set_option maxRecDepth 100000
namespace Go.Proofs.Ytlldeifbfpmbaaa
open Go.RowKit Go.Proofs Go.MapKept
theorem membL_yes {t k : Nat} (h : t / 2 ^ k % 2 = 1) : membL t (k + 1) = membL t k ++ [(k : Int)] := if_pos h
theorem membL_no {t k : Nat} (h : ¬ t / 2 ^ k % 2 = 1) : membL t (k + 1) = membL t k := if_neg h
theorem bit_of {t k : Nat} : ((t / 2 ^ k : Nat) : Int) % 2 = 1 ↔ t / 2 ^ k % 2 = 1 := by
 generalize t / 2 ^ k = q
 omega
set_option maxHeartbeats 2000000 in
theorem refFails_any (ga la : Option Addr) (n gc lc : Nat) (L : Int → Nat) (E : Int → Int → Int) (l : Int → Int) (w : World) (hn : n ≤ 12) (hL : ∀ r : Int, 0 ≤ r → r < n → L r ≤ 1000000) (h : ITab w.heap.size w ga n L (fun r c => iv (E r c))) (hl : IAt w.heap.size w la n (fun i => iv (l i))) :
  Calls Try.prog 30 #[.agg #[.slice ga n gc], .slice la n lc] w fun e w' => e = .returned (.bool (dB (¬ AnyCoal n (lik5 L E) l))) ∧ Below w.heap.size w w' := by
 have hp1 : (2 : Nat) ^ n ≤ 2 ^ 12 := Nat.pow_le_pow_right (by decide) hn
 have hp2 : (2 : Nat) ^ 12 = 4096 := by decide
 have hp0 := Nat.two_pow_pos n
 refine calls_of_run (F := [(0, _), (1, _)]) Try.func30 rfl Try.ntmps30 rfl rfl ?_
 have hO0 := Own.init w
 refine run_seq <| run_region <| rl_ow rfl (ow_box _ rfl rfl rfl rfl rfl hO0) ?_
 rintro _ w1 ⟨b2, rfl, hO2, hs3⟩
 refine rl_v rfl rfl rfl (ov_assign rfl rfl) <| rl_nil <| run_seq <| run_region <| rl_v rfl rfl rfl (ov_fieldS rfl Try.underlying47 rfl (fo := 0) rfl (by kernel_rfl) rfl) ?_
 refine rl_v rfl rfl rfl (ov_load rfl Try.underlying22 rfl rfl (by exact hO2.cellL 0 rfl (off := 0) rfl)) ?_
 refine rl_v rfl rfl rfl (ov_len rfl Try.underlying22 rfl) <| rl_v rfl rfl rfl (ov_assign rfl rfl) <| rl_nil <| run_seq <| run_seq <| run_region <| rl_v rfl rfl rfl (ov_assign rfl rfl) <| rl_nil <| run_block <| Run.keep [1, 2, 5, 6] (F' := [(1, _), (2, _), (5, _), (6, _)]) rfl <| run_loop1 (fun (t : Nat) => [(6, .int .i64 (t : Int))]) [1, 2, 5] (fun (t : Nat) (w4 : World) => 1 ≤ t ∧ t ≤ 2 ^ n ∧ (∀ s : Nat, 1 ≤ s → s < t → ¬ Coal (lik5 L E) l (InI (enL (membL s n)) (membL s n).length)) ∧ Own w.heap.size w w4 [some (lch b2 47 [.slice ga n gc])]) (fun (t : Nat) => 2 ^ n - t) (1) ?_ (And.intro (by exact slot_int rfl (by first | omega)) (And.intro rfl (And.intro rfl (And.intro rfl trivial)))) ?_
 ·exact ⟨Nat.le_refl _, hp0, fun s h1 h2 => by omega, hO2⟩
 intro t w4 hIw4 ih5
 obtain ⟨ht1, ht2, hno, hO⟩ := hIw4
 show Run _ _ _ _ [(6, _), (1, _), (2, _), (5, _)] _ _
 refine run_seq <| run_seq <| run_region <| rl_v rfl rfl rfl (ov_move rfl rfl) <| rl_v rfl rfl rfl (ov_move rfl rfl) <| rl_v rfl rfl rfl (ov_convTo ((show IntKind.u64.wrap (n : Int) = (n : Int) from IntWalk.u64_in _ (by omega))) rfl Try.underlying3 Try.underlying37 rfl) ?_
 refine rl_v rfl rfl rfl (ov_shl1 rfl rfl rfl (by omega)) ?_
 refine rl_v rfl rfl rfl (ov_lss rfl rfl rfl) <| rl_nil ?_
 first | refine run_cond_dec rfl (fun c1 => ?_) (fun c1 => ?_) | refine run_cond rfl (fun c1 => ?_) (fun c1 => ?_)
 ·have ht3 : t < 2 ^ n := by
   generalize 2 ^ n = q at c1 ⊢
   omega
  have hOn := hO.nil_cons
  refine run_skip <| run_seq <| run_block <| run_seq <| run_region <| rl_v rfl rfl rfl (ov_assign rfl rfl) <| rl_nil <| run_seq <| run_seq <| run_region <| rl_v rfl rfl rfl (ov_assign rfl rfl) <| rl_nil <| run_block <| Run.keep [1, 2, 5, 6, 7, 8] (F' := [(1, _), (2, _), (5, _), (6, _), (7, _), (8, _)]) rfl <| run_loop3 (fun (i : Nat) (ma : Option Addr) (mc : Nat) => [(8, .int .i64 (i : Int)), (7, .slice ma (membL t i).length mc)]) [1, 2, 5, 6] (fun (i : Nat) (ma : Option Addr) (mc : Nat) (w6 : World) => ∃ c : Option Blk, i ≤ n ∧ IRow (.slice ma (membL t i).length mc) 3 (membL t i).length (fun j => iv (enL (membL t i) j)) c ∧ Own w.heap.size w w6 [c, some (lch b2 47 [.slice ga n gc])]) (fun (i : Nat) (ma : Option Addr) (mc : Nat) => n - i) (0) (none) (0) ?_ (And.intro (by exact slot_int rfl (by first | omega)) (And.intro rfl (And.intro rfl (And.intro rfl (And.intro rfl (And.intro rfl trivial)))))) ?_
  ·exact ⟨none, Nat.zero_le _, IRow.nil _ _, hOn⟩
  intro i ma mc w6 hIw6 ih7
  obtain ⟨c, hi, hr, hO⟩ := hIw6
  show Run _ _ _ _ [(8, _), (7, _), (1, _), (2, _), (5, _), (6, _)] _ _
  have hlen := membL_len t i
  refine run_seq <| run_seq <| run_region <| rl_v rfl rfl rfl (ov_move rfl rfl) <| rl_v rfl rfl rfl (ov_move rfl rfl) <| rl_v rfl rfl rfl (ov_lss rfl rfl rfl) <| rl_nil ?_
  first | refine run_cond_dec rfl (fun c2 => ?_) (fun c2 => ?_) | refine run_cond rfl (fun c2 => ?_) (fun c2 => ?_)
  ·refine run_skip <| run_seq <| run_block <| run_seq <| run_region <| rl_v rfl rfl rfl (ov_move rfl rfl) <| rl_v rfl rfl rfl (ov_move rfl rfl) <| rl_v rfl rfl rfl (ov_convTo ((show IntKind.u64.wrap (i : Int) = (i : Int) from IntWalk.u64_in _ (by omega))) rfl Try.underlying3 Try.underlying37 rfl) ?_
   refine rl_v rfl rfl rfl (ov_shrI rfl rfl rfl (by omega)) ?_
   refine rl_v rfl rfl rfl (ov_rem rfl rfl rfl (Int.natCast_nonneg _) (by omega)) ?_
   refine rl_v rfl rfl rfl (ov_eql rfl rfl rfl) <| rl_nil ?_
   first | refine run_cond_dec rfl (fun c3 => ?_) (fun c3 => ?_) | refine run_cond rfl (fun c3 => ?_) (fun c3 => ?_)
   ·have hb : t / 2 ^ i % 2 = 1 := bit_of.1 c3
    refine run_region <| rl_v rfl rfl rfl (ov_move rfl rfl) <| rl_v rfl rfl rfl (ov_move rfl rfl) ?_
    refine rl_appI rfl rfl rfl rfl rfl rfl rfl rfl Try.underlying23 info_3 rfl hO 0 hr rfl rfl rfl ⟨by omega, by omega⟩ (fun v5 c5 w8 hO9 hr5 hs10 => ?_)
    obtain ⟨a5, cp5, rfl⟩ := Row.val hr5
    have hsn := membL_yes hb
    have hln : (membL t (i + 1)).length = (membL t i).length + 1 := by rw [hsn, List.length_append]; rfl
    rw [← hln]
    refine rl_v rfl rfl rfl (ov_assign rfl rfl) <| rl_nil <| run_inBlock <| run_region <| rl_v rfl rfl rfl (ov_move rfl rfl) <| rl_v rfl rfl rfl (ov_add rfl rfl rfl (by omega)) ?_
    refine rl_v rfl rfl rfl (ov_assign rfl rfl) <| rl_nil ?_
    refine Run.use (ih7 (i + 1) (a5) (cp5) _ ?_ ?_) (And.intro (by exact slot_int rfl (by first | omega)) (And.intro rfl (And.intro rfl (And.intro rfl (And.intro rfl (And.intro rfl trivial))))))
    ·first | omega | (dsimp only; omega)
    ·exact ⟨c5, by omega, by rw [hln] at *; rw [hsn]; exact hr5.congr fun k k0 k1 => congrArg iv (enL_snoc _ _ k k0 k1), hO9⟩
   ·have hb : ¬ t / 2 ^ i % 2 = 1 := fun h => c3 (bit_of.2 h)
    have hsn := membL_no hb
    rw [show (membL t i).length = (membL t (i + 1)).length from by rw [hsn]]
    refine run_skip <| run_inBlock <| run_region <| rl_v rfl rfl rfl (ov_move rfl rfl) <| rl_v rfl rfl rfl (ov_add rfl rfl rfl (by omega)) ?_
    refine rl_v rfl rfl rfl (ov_assign rfl rfl) <| rl_nil ?_
    refine Run.use (ih7 (i + 1) (ma) (mc) _ ?_ ?_) (And.intro (by exact slot_int rfl (by first | omega)) (And.intro rfl (And.intro rfl (And.intro rfl (And.intro rfl (And.intro rfl trivial))))))
    ·first | omega | (dsimp only; omega)
    ·exact ⟨c, by omega, by rw [hsn]; exact hr, hO⟩
  ·have hin : i = n := by omega
   subst hin
   refine run_exit rfl <| run_seq <| run_region <| rl_v rfl rfl rfl (ov_loadW rfl Try.underlying47 rfl (by kernel_rfl) rfl hO 1 rfl) ?_
   refine rl_v rfl rfl rfl (ov_move rfl rfl) <| rl_v rfl rfl rfl (ov_move rfl rfl) ?_
   refine rl_call callable_29 rfl rfl rfl rfl rfl rfl (refBetter5_any ga la ma i gc lc (membL t i).length mc L E l (enL (membL t i)) _ (by omega) hL ((h.below hO.below).mono hO.size) (hO.iatF hl) (hr.reads hO 0 rfl) (membL_memb t i)) (fun e11 w12 hp13 => ?_)
   obtain ⟨rfl, hb1⟩ := hp13
   refine ⟨_, rfl, ?_⟩
   have hO14 := hO.past hb1
   refine rl_nil ?_
   first | refine run_cond_dec rfl (fun c4 => ?_) (fun c4 => ?_) | refine run_cond rfl (fun c4 => ?_) (fun c4 => ?_)
   ·have hcoal : Coal (lik5 L E) l (InI (enL (membL t i)) (membL t i).length) := c4
    have hres : dB (¬ AnyCoal i (lik5 L E) l) = false := by
     cases e : dB (¬ AnyCoal i (lik5 L E) l)
     ·rfl
     ·exact absurd ⟨t, ⟨ht1, ht3⟩, hcoal⟩ (dB_iff.1 e)
    refine run_seq <| run_region <| rl_v rfl rfl rfl (ov_assign rfl rfl) <| rl_nil <| run_ret Try.func30 (res1 Try.results30 rfl) ?_
    exact ⟨congrArg (fun x => Ending.returned (.bool x)) hres.symm, hO14.below⟩
   ·have hncoal : ¬ Coal (lik5 L E) l (InI (enL (membL t i)) (membL t i).length) := c4
    refine run_skip <| run_inBlock <| run_region <| rl_v rfl rfl rfl (ov_move rfl rfl) <| rl_v rfl rfl rfl (ov_add rfl rfl rfl (by omega)) ?_
    refine rl_v rfl rfl rfl (ov_assign rfl rfl) <| rl_nil ?_
    refine Run.use (ih5 (t + 1) _ ?_ ?_) (And.intro (by exact slot_int rfl (by first | omega)) (And.intro rfl (And.intro rfl (And.intro rfl trivial))))
    ·first | omega | (dsimp only; omega)
    ·exact ⟨by omega, ht3, fun s h1 h2 => by by_cases e : s = t; (rw [e]; exact hncoal); (exact hno s h1 (by omega)), hO14.tail⟩
 ·have hte : 2 ^ n ≤ t := by
   generalize 2 ^ n = q at c1 ⊢
   omega
  refine run_exit rfl <| run_seq <| run_region <| rl_v rfl rfl rfl (ov_assign rfl rfl) <| rl_nil <| run_ret Try.func30 (res1 Try.results30 rfl) ?_
  exact ⟨congrArg (fun x => Ending.returned (.bool x)) (dB_iff.2 fun ⟨s, hs, hc⟩ => hno s hs.1 (Nat.lt_of_lt_of_le hs.2 hte) hc).symm, hO.below⟩
end Go.Proofs.Ytlldeifbfpmbaaa
