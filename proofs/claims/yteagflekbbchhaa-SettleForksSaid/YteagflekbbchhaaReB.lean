import Derived.Test.YteagflekbbchhaaReA
set_option maxRecDepth 100000
namespace Go.Proofs.Yteagflekbbchhaa
open Go.RowKit Go.Proofs
def ats (l : List Rc) (d : Int) : Int := l.foldl (fun s r => if r.2 = d ∧ r.1 ≠ 4 then r.1 else s) 0
theorem ats_snoc (l : List Rc) (r : Rc) (d : Int) : ats (l ++ [r]) d = if r.2 = d ∧ r.1 ≠ 4 then r.1 else ats l d := by simp [ats]
theorem take_rec {l : List Rc} {i : Int} (h0 : 0 ≤ i) (h1 : i < l.length) : l.take (i + 1).toNat = l.take i.toNat ++ [l.getD i.toNat (0, 0)] := by
 have e : (i + 1).toNat = i.toNat + 1 := by omega
 have hl : i.toNat < l.length := by omega
 rw [e, List.take_add_one, List.getD_eq_getElem?_getD, List.getElem?_eq_getElem hl]
 rfl
theorem ats_state {X : MW} {n : Int} {l : List Rc} (h : LOk X n l) (hk : ∀ r ∈ l, 1 ≤ r.1 ∧ r.1 ≤ 3) (d : Int) : ats l d = if (3, d) ∈ l then 3 else if (2, d) ∈ l then 2 else if (1, d) ∈ l then 1 else 0 := by
 induction h with
 | nil => simp [ats]
 | @snoc a r h hr ih =>
  have ih := ih fun x hx => hk x (List.mem_append_left _ hx)
  have hkr := hk r (List.mem_append_right _ (List.mem_singleton.2 rfl))
  rw [ats_snoc]
  obtain ⟨k, e⟩ := r
  dsimp only at hkr
  have nin : ∀ {q f : Int}, (q, f) ∈ a ++ [(k, e)] ↔ (q, f) ∈ a ∨ (q = k ∧ f = e) := fun {q f} => by simp
  unfold okRec at hr
  dsimp only at hr
  simp only [nin]
  by_cases hd : e = d
  ·subst hd
   rw [if_pos ⟨rfl, by omega⟩]
   have h3 : k = 1 ∨ k = 2 ∨ k = 3 := by omega
   rcases h3 with rfl | rfl | rfl
   ·obtain ⟨⟨q1, q2, q3⟩, _⟩ := hr.1 rfl
    simp [q1, q2, q3]
   ·obtain ⟨q1, q2, q3⟩ := hr.2 (.inl rfl)
    simp [q1, q2, q3]
   ·simp
  ·have hd' : ¬ d = e := fun h => hd h.symm
   rw [if_neg (fun h => hd h.1), ih]
   simp [hd']
theorem at_state {X : MW} (hL : LInv X) (hG : Good X) {n : Int} (hn : n = 1 ∨ n = 2) (d : Int) : ats (X.lg n).recs d = (X.lg n).state d :=
 ats_state (hL n hn) (fun r hr => (srec hG hn r hr).2) d
theorem rat_any (X : MW) (K : RK) (n d : Int) (B : Nat) (N H : List (Option Blk)) (w0 w : World) (hn : n = 1 ∨ n = 2) (hlen : (X.lg n).recs.length ≤ 5000) (hO : Own B w0 w H) (hN : ∀ x ∈ N, x ∈ H) (hK : XIn N X K) :
  Calls Try.prog 33 #[rwv X K, iv n, iv d] w fun e w' => e = .returned (iv (ats (X.lg n).recs d)) ∧ Own B w0 w' H := by
 have hn3 : N3 n := N3.s hn
 obtain ⟨gb, hga, hrow⟩ := (hK.lv n hn3).open
 refine calls_of_run (F := [(0, _), (1, _), (2, _)]) Try.func33 rfl Try.ntmps33 rfl rfl <| run_seq <| run_region <| rl_ow rfl (ow_box _ rfl rfl rfl rfl rfl hO) ?_
 rintro _ w1 ⟨b3, rfl, hO2, hs3⟩
 refine rl_v rfl rfl rfl (ov_assign rfl rfl) <| rl_nil <| run_seq <| run_region <| rl_v rfl rfl rfl (ov_assign rfl rfl) <| rl_nil <| run_seq <| run_seq <| run_region <| rl_v rfl rfl rfl (ov_assign rfl rfl) <| rl_nil <| run_block <| Run.keep [1, 2, 3, 7, 8] (F' := [(1, _), (2, _), (3, _), (7, _), (8, _)]) rfl <| run_loop1 (fun (i : Int) => [(8, .int .i64 i), (7, .int .i64 (ats ((X.lg n).recs.take i.toNat) d))]) [1, 2, 3] (fun (i : Int) (w4 : World) => 0 ≤ i ∧ i ≤ (X.lg n).recs.length ∧ Own B w0 w4 (some (lch b3 69 (rwl X K)) :: H)) (fun (i : Int) => (((X.lg n).recs.length : Int) - i).toNat) (0) ?_ (And.intro (by exact slot_int rfl (by first | omega)) (And.intro (by rfl) (And.intro rfl (And.intro rfl (And.intro rfl trivial))))) ?_
 ·exact ⟨by omega, by omega, hO2⟩
 intro i w4 hIw4 ih5
 obtain ⟨hi0, hi1, hOw⟩ := hIw4
 show Run _ _ _ _ [(8, _), (7, _), (1, _), (2, _), (3, _)] _ _
 refine run_seq <| run_seq <| run_region <| rl_v rfl rfl rfl (ov_move rfl rfl) <| rl_v rfl rfl rfl (ov_move rfl rfl) <| rl_v rfl rfl rfl (ov_fieldS rfl Try.underlying69 rfl (fo := 7) rfl (by kernel_rfl) rfl) ?_
 refine rl_v rfl rfl rfl (ov_indexA rfl Try.underlying67 (by kernel_rfl) (s := 5) rfl rfl ⟨by omega, by omega⟩) ?_
 refine rl_v rfl rfl rfl (ov_fieldS rfl Try.underlying66 rfl (fo := 0) rfl (by kernel_rfl) rfl) ?_
 refine rl_v rfl rfl rfl (ov_load rfl Try.underlying64 rfl rfl (by exact hOw.cellL 0 rfl ((rw_node X K hn3 0 (by omega)).trans rfl))) ?_
 refine rl_v rfl rfl rfl (ov_len rfl Try.underlying64 rfl) <| rl_v rfl rfl rfl (ov_lss rfl rfl rfl) <| rl_nil ?_
 first | refine run_cond_dec rfl (fun hlt => ?_) (fun hlt => ?_) | refine run_cond rfl (fun hlt => ?_) (fun hlt => ?_)
 ·have hsn := take_rec hi0 hlt
  have hat := ats_snoc ((X.lg n).recs.take i.toNat) ((X.lg n).recs.getD i.toNat (0, 0)) d
  rw [← hsn] at hat
  refine run_skip <| run_seq <| run_block <| run_seq <| run_region <| rl_v rfl rfl rfl (ov_move rfl rfl) <| rl_v rfl rfl rfl (ov_fieldS rfl Try.underlying69 rfl (fo := 7) rfl (by kernel_rfl) rfl) ?_
  refine rl_v rfl rfl rfl (ov_indexA rfl Try.underlying67 (by kernel_rfl) (s := 5) rfl rfl ⟨by omega, by omega⟩) ?_
  refine rl_v rfl rfl rfl (ov_fieldS rfl Try.underlying66 rfl (fo := 0) rfl (by kernel_rfl) rfl) ?_
  refine rl_v rfl rfl rfl (ov_load rfl Try.underlying64 rfl rfl (by exact hOw.cellL 0 rfl ((rw_node X K hn3 0 (by omega)).trans rfl))) ?_
  refine rl_v rfl rfl rfl (ov_move rfl rfl) <| rl_v rfl rfl rfl (ov_index rfl Try.underlying64 (by kernel_rfl) (s := 2) rfl rfl ⟨by omega, by omega⟩ (by exact (hga (by omega)))) ?_
  refine rl_v rfl rfl rfl (ov_loadE rfl Try.underlying122 rfl (by kernel_rfl) rfl ⟨by omega, by omega⟩ rfl ((hrow hOw (mem_c1 hN)))) ?_
  refine rl_ow rfl (ow_alloc _ rfl rfl rfl zero_122 rfl hOw) ?_
  rintro _ w6 ⟨b9, rfl, hO7, hs8⟩
  refine rl_ow rfl (ow_storeW rfl rfl (by kernel_rfl) hO7 0 rfl rfl (by rfl) rfl (by rfl)) ?_
  rintro _ w9 ⟨rfl, hO10, hs11⟩
  refine rl_nil <| run_seq <| run_region <| rl_v rfl rfl rfl (ov_fieldS rfl Try.underlying122 rfl (fo := 1) rfl (by kernel_rfl) rfl) ?_
  refine rl_v rfl rfl rfl (ov_load rfl Try.underlying3 rfl rfl (by exact hO10.cellL 0 rfl rfl)) ?_
  refine rl_v rfl rfl rfl (ov_move rfl rfl) <| rl_v rfl rfl rfl (ov_eql rfl rfl rfl) <| rl_v rfl rfl rfl (ov_move rfl rfl) ?_
  first | refine rl_split_dec 32 rfl (fun e1 => ?_) (fun e1 => ?_) | refine rl_split 32 rfl (fun e1 => ?_) (fun e1 => ?_)
  ·refine rl_gv rfl rfl rfl rfl rfl (ov_fieldS rfl Try.underlying122 rfl (fo := 0) rfl (by kernel_rfl) rfl) ?_
   refine rl_gv rfl rfl rfl rfl rfl (ov_load rfl Try.underlying3 rfl rfl (by exact hO10.cellL 0 rfl rfl)) ?_
   refine rl_gv rfl rfl rfl rfl rfl (ov_neq rfl rfl rfl) <| rl_v rfl rfl rfl (ov_pick_t rfl rfl rfl) <| rl_nil ?_
   first | refine run_cond_dec rfl (fun e2 => ?_) (fun e3 => ?_) | refine run_cond rfl (fun e2 => ?_) (fun e3 => ?_)
   ·have hnx : ((X.lg n).recs.getD i.toNat (0, 0)).1 = ats ((X.lg n).recs.take (i + 1).toNat) d := by rw [hat, if_pos ⟨e1, e2⟩]
    refine run_region <| rl_v rfl rfl rfl (ov_fieldS rfl Try.underlying122 rfl (fo := 0) rfl (by kernel_rfl) rfl) ?_
    refine rl_v rfl rfl rfl (ov_load rfl Try.underlying3 rfl rfl (by exact hO10.cellL 0 rfl rfl)) ?_
    refine rl_v rfl rfl rfl (ov_assign rfl rfl) <| rl_nil <| run_inBlock <| run_region <| rl_v rfl rfl rfl (ov_move rfl rfl) <| rl_v rfl rfl rfl (ov_add rfl rfl rfl (by omega)) ?_
    refine rl_v rfl rfl rfl (ov_assign rfl rfl) <| rl_nil ?_
    refine Run.use (ih5 _ _ ?_ ?_) (And.intro (by rfl) (And.intro (by exact slot_int rfl (by first | omega | (exact hnx))) (And.intro rfl (And.intro rfl (And.intro rfl trivial)))))
    ·first | omega | (dsimp only; omega)
    ·exact ⟨by omega, by omega, hO10.tail⟩
   ·have hnx : ats ((X.lg n).recs.take i.toNat) d = ats ((X.lg n).recs.take (i + 1).toNat) d := by rw [hat, if_neg fun h => h.2 (by omega)]
    refine run_skip <| run_inBlock <| run_region <| rl_v rfl rfl rfl (ov_move rfl rfl) <| rl_v rfl rfl rfl (ov_add rfl rfl rfl (by omega)) ?_
    refine rl_v rfl rfl rfl (ov_assign rfl rfl) <| rl_nil ?_
    refine Run.use (ih5 _ _ ?_ ?_) (And.intro (by rfl) (And.intro (by exact slot_int rfl (by first | omega | (exact hnx))) (And.intro rfl (And.intro rfl (And.intro rfl trivial)))))
    ·first | omega | (dsimp only; omega)
    ·exact ⟨by omega, by omega, hO10.tail⟩
  ·refine rl_gskip rfl rfl rfl rfl rfl rfl <| rl_gskip rfl rfl rfl rfl rfl rfl <| rl_gskip rfl rfl rfl rfl rfl rfl <| rl_v rfl rfl rfl (ov_pick_f rfl rfl rfl) <| rl_nil <| run_cond_f rfl ?_
   have hnx : ats ((X.lg n).recs.take i.toNat) d = ats ((X.lg n).recs.take (i + 1).toNat) d := by rw [hat, if_neg fun h => e1 h.1]
   refine run_skip <| run_inBlock <| run_region <| rl_v rfl rfl rfl (ov_move rfl rfl) <| rl_v rfl rfl rfl (ov_add rfl rfl rfl (by omega)) ?_
   refine rl_v rfl rfl rfl (ov_assign rfl rfl) <| rl_nil ?_
   refine Run.use (ih5 _ _ ?_ ?_) (And.intro (by rfl) (And.intro (by exact slot_int rfl (by first | omega | (exact hnx))) (And.intro rfl (And.intro rfl (And.intro rfl trivial)))))
   ·first | omega | (dsimp only; omega)
   ·exact ⟨by omega, by omega, hO10.tail⟩
 ·have hie : i.toNat = (X.lg n).recs.length := by omega
  refine run_exit rfl <| run_seq <| run_region <| rl_v rfl rfl rfl (ov_move rfl rfl) <| rl_v rfl rfl rfl (ov_assign rfl rfl) <| rl_nil <| run_ret Try.func33 (res1 Try.results33 rfl) ?_
  exact ⟨by rw [hie, List.take_length], hOw.tail⟩
theorem rleg_any (X : MW) (K : RK) (n d : Int) (B : Nat) (N H : List (Option Blk)) (w0 w : World) (hn : n = 1 ∨ n = 2) (hd : 1 ≤ d ∧ d ≤ X.deals.length) (hdn : X.deals.length ≤ 1000) (hO : Own B w0 w H) (hN : ∀ x ∈ N, x ∈ H) (hK : XIn N X K) :
  Calls Try.prog 60 #[rwv X K, iv n, iv d] w fun e w' => e = .returned (.tuple #[iv (X.payer n d + 1), iv (X.payee n d + 1), iv (X.amount n d)]) ∧ Own B w0 w' H := by
 obtain ⟨gb, hga, hrow⟩ := hK.dv.open
 refine calls_of_run (F := [(0, _), (1, _), (2, _)]) Try.func60 rfl Try.ntmps60 rfl rfl <| run_seq <| run_region <| rl_ow rfl (ow_box _ rfl rfl rfl rfl rfl hO) ?_
 rintro _ w1 ⟨b3, rfl, hO2, hs3⟩
 refine rl_v rfl rfl rfl (ov_assign rfl rfl) <| rl_v rfl rfl rfl (ov_assign rfl rfl) <| rl_v rfl rfl rfl (ov_assign rfl rfl) <| rl_nil <| run_seq <| run_region <| rl_v rfl rfl rfl (ov_fieldS rfl Try.underlying69 rfl (fo := 4) rfl (by kernel_rfl) rfl) ?_
 refine rl_v rfl rfl rfl (ov_load rfl Try.underlying25 rfl rfl (by exact hO2.cellL 0 rfl rfl)) ?_
 refine rl_v rfl rfl rfl (ov_move rfl rfl) <| rl_v rfl rfl rfl (ov_sub rfl rfl rfl (by omega)) ?_
 refine rl_v rfl rfl rfl (ov_index rfl Try.underlying25 (by kernel_rfl) (s := 4) rfl rfl ⟨by omega, by omega⟩ (by exact (hga (by omega)))) ?_
 refine rl_v rfl rfl rfl (ov_loadE rfl Try.underlying34 rfl (by kernel_rfl) rfl ⟨by omega, by omega⟩ rfl ((hrow hO2 (mem_c1 hN)))) ?_
 refine rl_ow rfl (ow_alloc _ rfl rfl rfl zero_34 rfl hO2) ?_
 rintro _ w4 ⟨b9, rfl, hO5, hs6⟩
 refine rl_ow rfl (ow_storeW rfl rfl (by kernel_rfl) hO5 0 rfl rfl (by rfl) rfl (by rfl)) ?_
 rintro _ w7 ⟨rfl, hO8, hs9⟩
 refine rl_nil <| run_seq <| run_seq <| run_region <| rl_v rfl rfl rfl (ov_move rfl rfl) <| rl_v rfl rfl rfl (ov_eql rfl rfl rfl) <| rl_nil ?_
 first | refine run_cond_dec rfl (fun h1 => ?_) (fun h2 => ?_) | refine run_cond rfl (fun h1 => ?_) (fun h2 => ?_)
 ·have e1 : X.payer n d + 1 = (X.deal d).b := by unfold MW.payer; rw [if_pos h1]; omega
  have e2 : X.payee n d + 1 = (X.deal d).s := by unfold MW.payee; rw [if_pos h1]; omega
  have e3 : X.amount n d = (X.deal d).m := by unfold MW.amount; rw [if_pos h1]
  refine run_seq <| run_quiet mixed (by kernel_rfl) ?_
  refine rq_v rfl rfl rfl (fun _ => ov_fieldS rfl Try.underlying34 rfl (fo := 0) rfl (by kernel_rfl) rfl) ?_
  refine rq_v rfl rfl rfl (fun _ => ov_load rfl Try.underlying3 rfl rfl (by show World.cell? w7 _ = _; first | exact hO8.cellI 0 rfl _ (by omega) (by omega) | exact hO8.cellL 0 rfl rfl | exact hO8.cellI 1 rfl _ (by omega) (by omega) | exact hO8.cellL 1 rfl rfl | exact hO8.cellI 2 rfl _ (by omega) (by omega) | exact hO8.cellL 2 rfl rfl | exact hO8.cellI 3 rfl _ (by omega) (by omega) | exact hO8.cellL 3 rfl rfl | exact hO8.cellI 4 rfl _ (by omega) (by omega) | exact hO8.cellL 4 rfl rfl | exact hO8.cellI 5 rfl _ (by omega) (by omega) | exact hO8.cellL 5 rfl rfl)) ?_
  refine rq_v rfl rfl rfl (fun _ => ov_fieldS rfl Try.underlying34 rfl (fo := 1) rfl (by kernel_rfl) rfl) ?_
  refine rq_v rfl rfl rfl (fun _ => ov_load rfl Try.underlying3 rfl rfl (by show World.cell? w7 _ = _; first | exact hO8.cellI 0 rfl _ (by omega) (by omega) | exact hO8.cellL 0 rfl rfl | exact hO8.cellI 1 rfl _ (by omega) (by omega) | exact hO8.cellL 1 rfl rfl | exact hO8.cellI 2 rfl _ (by omega) (by omega) | exact hO8.cellL 2 rfl rfl | exact hO8.cellI 3 rfl _ (by omega) (by omega) | exact hO8.cellL 3 rfl rfl | exact hO8.cellI 4 rfl _ (by omega) (by omega) | exact hO8.cellL 4 rfl rfl | exact hO8.cellI 5 rfl _ (by omega) (by omega) | exact hO8.cellL 5 rfl rfl)) ?_
  refine rq_v rfl rfl rfl (fun _ => ov_fieldS rfl Try.underlying34 rfl (fo := 2) rfl (by kernel_rfl) rfl) ?_
  refine rq_v rfl rfl rfl (fun _ => ov_load rfl Try.underlying2 rfl rfl (by show World.cell? w7 _ = _; first | exact hO8.cellI 0 rfl _ (by omega) (by omega) | exact hO8.cellL 0 rfl rfl | exact hO8.cellI 1 rfl _ (by omega) (by omega) | exact hO8.cellL 1 rfl rfl | exact hO8.cellI 2 rfl _ (by omega) (by omega) | exact hO8.cellL 2 rfl rfl | exact hO8.cellI 3 rfl _ (by omega) (by omega) | exact hO8.cellL 3 rfl rfl | exact hO8.cellI 4 rfl _ (by omega) (by omega) | exact hO8.cellL 4 rfl rfl | exact hO8.cellI 5 rfl _ (by omega) (by omega) | exact hO8.cellL 5 rfl rfl)) ?_
  refine rq_v rfl rfl rfl (fun _ => ov_assign rfl rfl) ?_
  refine rq_v rfl rfl rfl (fun _ => ov_assign rfl rfl) ?_
  refine rq_v rfl rfl rfl (fun _ => ov_assign rfl rfl) ?_
  refine rq_nil (fun n10 => ?_)
  have hO12 := hO8.drewN n10
  generalize World.drewN w7 n10 = w11 at hO12 ⊢
  refine run_ret Try.func60 (res3 Try.results60 rfl rfl rfl) ?_
  exact ⟨by rw [e1, e2, e3]; rfl, hO12.tail.tail⟩
 ·have e1 : X.payer n d + 1 = (X.deal d).s := by unfold MW.payer; rw [if_neg h2]; omega
  have e2 : X.payee n d + 1 = (X.deal d).b := by unfold MW.payee; rw [if_neg h2]; omega
  have e3 : X.amount n d = (X.deal d).g := by unfold MW.amount; rw [if_neg h2]
  refine run_skip <| run_seq <| run_quiet mixed (by kernel_rfl) ?_
  refine rq_v rfl rfl rfl (fun _ => ov_fieldS rfl Try.underlying34 rfl (fo := 1) rfl (by kernel_rfl) rfl) ?_
  refine rq_v rfl rfl rfl (fun _ => ov_load rfl Try.underlying3 rfl rfl (by show World.cell? w7 _ = _; first | exact hO8.cellI 0 rfl _ (by omega) (by omega) | exact hO8.cellL 0 rfl rfl | exact hO8.cellI 1 rfl _ (by omega) (by omega) | exact hO8.cellL 1 rfl rfl | exact hO8.cellI 2 rfl _ (by omega) (by omega) | exact hO8.cellL 2 rfl rfl | exact hO8.cellI 3 rfl _ (by omega) (by omega) | exact hO8.cellL 3 rfl rfl | exact hO8.cellI 4 rfl _ (by omega) (by omega) | exact hO8.cellL 4 rfl rfl | exact hO8.cellI 5 rfl _ (by omega) (by omega) | exact hO8.cellL 5 rfl rfl)) ?_
  refine rq_v rfl rfl rfl (fun _ => ov_fieldS rfl Try.underlying34 rfl (fo := 0) rfl (by kernel_rfl) rfl) ?_
  refine rq_v rfl rfl rfl (fun _ => ov_load rfl Try.underlying3 rfl rfl (by show World.cell? w7 _ = _; first | exact hO8.cellI 0 rfl _ (by omega) (by omega) | exact hO8.cellL 0 rfl rfl | exact hO8.cellI 1 rfl _ (by omega) (by omega) | exact hO8.cellL 1 rfl rfl | exact hO8.cellI 2 rfl _ (by omega) (by omega) | exact hO8.cellL 2 rfl rfl | exact hO8.cellI 3 rfl _ (by omega) (by omega) | exact hO8.cellL 3 rfl rfl | exact hO8.cellI 4 rfl _ (by omega) (by omega) | exact hO8.cellL 4 rfl rfl | exact hO8.cellI 5 rfl _ (by omega) (by omega) | exact hO8.cellL 5 rfl rfl)) ?_
  refine rq_v rfl rfl rfl (fun _ => ov_fieldS rfl Try.underlying34 rfl (fo := 3) rfl (by kernel_rfl) rfl) ?_
  refine rq_v rfl rfl rfl (fun _ => ov_load rfl Try.underlying2 rfl rfl (by show World.cell? w7 _ = _; first | exact hO8.cellI 0 rfl _ (by omega) (by omega) | exact hO8.cellL 0 rfl rfl | exact hO8.cellI 1 rfl _ (by omega) (by omega) | exact hO8.cellL 1 rfl rfl | exact hO8.cellI 2 rfl _ (by omega) (by omega) | exact hO8.cellL 2 rfl rfl | exact hO8.cellI 3 rfl _ (by omega) (by omega) | exact hO8.cellL 3 rfl rfl | exact hO8.cellI 4 rfl _ (by omega) (by omega) | exact hO8.cellL 4 rfl rfl | exact hO8.cellI 5 rfl _ (by omega) (by omega) | exact hO8.cellL 5 rfl rfl)) ?_
  refine rq_v rfl rfl rfl (fun _ => ov_assign rfl rfl) ?_
  refine rq_v rfl rfl rfl (fun _ => ov_assign rfl rfl) ?_
  refine rq_v rfl rfl rfl (fun _ => ov_assign rfl rfl) ?_
  refine rq_nil (fun n13 => ?_)
  have hO15 := hO8.drewN n13
  generalize World.drewN w7 n13 = w14 at hO15 ⊢
  refine run_ret Try.func60 (res3 Try.results60 rfl rfl rfl) ?_
  exact ⟨by rw [e1, e2, e3]; rfl, hO15.tail.tail⟩
theorem LOk.excl {X : MW} {n : Int} {l : List Rc} (h : LOk X n l) (d : Int) : ¬ ((2, d) ∈ l ∧ (3, d) ∈ l) := by
 induction h with
 | nil => simp
 | @snoc a r h hr ih =>
  obtain ⟨k, e⟩ := r
  unfold okRec at hr
  dsimp only at hr
  simp only [List.mem_append, List.mem_singleton, Prod.mk.injEq]
  rintro ⟨h1 | ⟨rfl, rfl⟩, h2 | ⟨h3, h4⟩⟩
  ·exact ih ⟨h1, h2⟩
  ·subst h3; subst h4; exact (hr.2 (.inr rfl)).2.1 h1
  ·exact (hr.2 (.inl rfl)).2.2 h2
  ·exact absurd h3 (by decide)
theorem state_done {X : MW} {n : Int} (h : LOk X n (X.lg n).recs) (d : Int) : (X.lg n).state d = 2 ↔ (2, d) ∈ (X.lg n).recs := by
 have := h.excl d
 unfold Lg.state
 split
 ·next h3 => exact ⟨fun e => absurd e (by decide), fun e => absurd ⟨e, h3⟩ this⟩
 ·split
  ·next h2 => exact ⟨fun _ => h2, fun _ => rfl⟩
  ·next h2 => split <;> exact ⟨fun e => absurd e (by decide), fun e => absurd e h2⟩
theorem state_prep {l : Lg} (d : Int) : l.state d = 1 ↔ (1, d) ∈ l.recs ∧ (2, d) ∉ l.recs ∧ (3, d) ∉ l.recs := by
 unfold Lg.state
 split
 ·next h => exact ⟨fun e => absurd e (by decide), fun e => absurd h e.2.2⟩
 ·next h3 =>
  split
  ·next h => exact ⟨fun e => absurd e (by decide), fun e => absurd h e.2.1⟩
  ·next h2 =>
   split
   ·next h => exact ⟨fun _ => ⟨h, h2, h3⟩, fun _ => rfl⟩
   ·next h => exact ⟨fun e => absurd e (by decide), fun e => absurd e.1 h⟩
def pbal (X : MW) (n k i : Int) : Int := (X.fst n).getD i.toNat 0 + sm (fun j => dlt X n (X.lg n).recs (j + 1) i) k
def phld (X : MW) (n k i : Int) : Int := sm (fun j => hld X n (X.lg n).recs (j + 1) i) k
theorem pbal_succ {X : MW} {n k : Int} (hk : 0 ≤ k) (i : Int) : pbal X n (k + 1) i = pbal X n k i + dlt X n (X.lg n).recs (k + 1) i := by unfold pbal; rw [sm_succ _ hk]; omega
theorem phld_succ {X : MW} {n k : Int} (hk : 0 ≤ k) (i : Int) : phld X n (k + 1) i = phld X n k i + hld X n (X.lg n).recs (k + 1) i := by unfold phld; rw [sm_succ _ hk]
theorem pbal_bnd {X : MW} (hG : Good X) {n k : Int} (hn : n = 1 ∨ n = 2) (h0 : 0 ≤ k) (h1 : k ≤ X.deals.length) (i : Int) : -(k * 1000000000000) ≤ pbal X n k i ∧ pbal X n k i ≤ 1000000000000 + k * 1000000000000 := by
 have hb : ∀ j : Int, 0 ≤ j → j < k → -1000000000000 ≤ dlt X n (X.lg n).recs (j + 1) i ∧ dlt X n (X.lg n).recs (j + 1) i ≤ 1000000000000 := fun j j0 j1 => by
  have := hG.pays (n := n) (d := j + 1) (by omega)
  unfold dlt
  split
  ·split <;> split <;> omega
  ·omega
 have hf : 0 ≤ (X.fst n).getD i.toNat 0 ∧ (X.fst n).getD i.toNat 0 ≤ 1000000000000 := by
  rw [List.getD_eq_getElem?_getD]
  cases e : (X.fst n)[i.toNat]? with
  | none => simp
  | some x => exact hG.fv n hn x (List.mem_of_getElem? e)
 have u1 := sm_bound (f := fun j => dlt X n (X.lg n).recs (j + 1) i) 1000000000000 h0 fun j a b => (hb j a b).2
 have u2 := sm_bound' (f := fun j => dlt X n (X.lg n).recs (j + 1) i) (-1000000000000) h0 fun j a b => (hb j a b).1
 unfold pbal
 omega
theorem phld_bnd {X : MW} (hG : Good X) {n k : Int} (h0 : 0 ≤ k) (h1 : k ≤ X.deals.length) (i : Int) : 0 ≤ phld X n k i ∧ phld X n k i ≤ k * 1000000000000 := by
 have hb : ∀ j : Int, 0 ≤ j → j < k → 0 ≤ hld X n (X.lg n).recs (j + 1) i ∧ hld X n (X.lg n).recs (j + 1) i ≤ 1000000000000 := fun j j0 j1 => by
  have := hG.pays (n := n) (d := j + 1) (by omega)
  unfold hld
  split <;> omega
 have u1 := sm_bound (f := fun j => hld X n (X.lg n).recs (j + 1) i) 1000000000000 h0 fun j a b => (hb j a b).2
 have u2 := sm_nonneg (f := fun j => hld X n (X.lg n).recs (j + 1) i) (k := k) fun j a b => (hb j a b).1
 exact ⟨u2, u1⟩
theorem pbal_all {X : MW} (hL : LInv X) (hG : Good X) {n : Int} (hn : n = 1 ∨ n = 2) (i : Int) : pbal X n X.deals.length i = X.bal n i := ((accs_form hG (hL n hn) (srec hG hn) i).1).symm
theorem phld_all {X : MW} (hL : LInv X) (hG : Good X) {n : Int} (hn : n = 1 ∨ n = 2) (i : Int) : phld X n X.deals.length i = X.held n i := ((accs_form hG (hL n hn) (srec hG hn) i).2).symm
theorem XIn.fst {N : List (Option Blk)} {X : MW} {K : RK} (h : XIn N X K) {n : Int} (hn : n = 1 ∨ n = 2) : ∃ ao cp, (rwl X K)[if n = 1 then 2 else 3]? = some (.slice ao (X.fst n).length cp) ∧ PRow N (.slice ao (X.fst n).length cp) 1 (X.fst n).length (fun i => [iv ((X.fst n).getD i.toNat 0)]) := by
 rcases hn with rfl | rfl
 ·exact ⟨_, _, rfl, h.mv⟩
 ·exact ⟨_, _, rfl, h.gv⟩
theorem bal_next {X : MW} {n d M : Int} {Gb : Int → Value} (hd : 1 ≤ d) (hne : X.payer n d ≠ X.payee n d) (hin : (2, d) ∈ (X.lg n).recs) (hGb : ∀ i : Int, 0 ≤ i → i < M → Gb i = iv (pbal X n (d - 1) i)) :
  ∀ i : Int, 0 ≤ i → i < M → upd (upd Gb (X.payer n d + 1 - 1) (iv (pbal X n (d - 1) (X.payer n d) - X.amount n d))) (X.payee n d + 1 - 1) (iv (pbal X n (d - 1) (X.payee n d) + X.amount n d)) i = iv (pbal X n (d + 1 - 1) i) := by
 intro i h0 h1
 have hp := pbal_succ (X := X) (n := n) (k := d - 1) (by omega) i
 rw [show d - 1 + 1 = d by omega] at hp
 rw [show d + 1 - 1 = d by omega, Int.add_sub_cancel, Int.add_sub_cancel, hp]
 unfold dlt upd
 rw [if_pos hin]
 by_cases e1 : i = X.payee n d
 ·rw [if_pos e1, if_pos e1, if_neg (fun h => hne (h.symm.trans e1)), e1]; exact congrArg iv (by omega)
 ·rw [if_neg e1, if_neg e1]
  by_cases e2 : i = X.payer n d
  ·rw [if_pos e2, if_pos e2, e2]; exact congrArg iv (by omega)
  ·rw [if_neg e2, if_neg e2, hGb i h0 h1]; exact congrArg iv (by omega)
theorem hld_next {X : MW} {n d M : Int} {Gb : Int → Value} (hd : 1 ≤ d) (hin : (1, d) ∈ (X.lg n).recs ∧ (2, d) ∉ (X.lg n).recs ∧ (3, d) ∉ (X.lg n).recs) (hGb : ∀ i : Int, 0 ≤ i → i < M → Gb i = iv (X.bal n i - phld X n (d - 1) i)) :
  ∀ i : Int, 0 ≤ i → i < M → upd Gb (X.payer n d + 1 - 1) (iv (X.bal n (X.payer n d) - phld X n (d - 1) (X.payer n d) - X.amount n d)) i = iv (X.bal n i - phld X n (d + 1 - 1) i) := by
 intro i h0 h1
 have hp := phld_succ (X := X) (n := n) (k := d - 1) (by omega) i
 rw [show d - 1 + 1 = d by omega] at hp
 rw [show d + 1 - 1 = d by omega, Int.add_sub_cancel, hp]
 unfold hld upd
 by_cases e2 : i = X.payer n d
 ·rw [if_pos e2, if_pos ⟨hin.1, hin.2.1, hin.2.2, e2⟩, e2]; exact congrArg iv (by omega)
 ·rw [if_neg e2, if_neg (fun h => e2 h.2.2.2), hGb i h0 h1]; exact congrArg iv (by omega)
theorem nil_join {v : Value} {E : TypeId} {m : Nat} {g : Int → Int} {c : Option Blk} (h : IRow v E (0 + m) (joinF (fun _ => iv 0) 0 (fun i => iv (g i))) c) : IRow v E m (fun i => iv (g i)) c := by
 rw [Nat.zero_add] at h
 refine h.congr fun i h0 h1 => ?_
 unfold joinF
 rw [if_neg (by omega)]
 show iv (g (i - ((0 : Nat) : Int))) = _
 rw [show i - ((0 : Nat) : Int) = i by omega]
theorem rbal_any (X : MW) (K : RK) (n : Int) (B : Nat) (N H : List (Option Blk)) (w0 w : World) (hn : n = 1 ∨ n = 2) (hG : Good X) (hL : LInv X) (hO : Own B w0 w H) (hN : ∀ x ∈ N, x ∈ H) (hK : XIn N X K) :
  Calls Try.prog 36 #[rwv X K, iv n] w fun e w' => ∃ v c, e = .returned v ∧ IRow v 2 (X.fst n).length (fun i => iv (X.bal n i)) c ∧ Own B w0 w' (c :: H) := by
 have hmem := hG.mem
 have hm := hG.fl n hn
 have hdn := hG.dn
 have hlen := hG.len (n := n) (by omega)
 obtain ⟨fo, fcap, hfv, hv⟩ := hK.fst hn
 obtain ⟨fb, hfa, hfr⟩ := hv.open1
 generalize hM : (X.fst n).length = M at *
 refine calls_of_run (F := [(0, _), (1, _)]) Try.func36 rfl Try.ntmps36 rfl rfl <| run_seq <| run_region <| rl_ow rfl (ow_box _ rfl rfl rfl rfl rfl hO) ?_
 rintro _ w1 ⟨b2, rfl, hO2, hs3⟩
 refine rl_v rfl rfl rfl (ov_assign rfl rfl) <| rl_nil <| run_seq <| run_region <| rl_v rfl rfl rfl (ov_assign rfl rfl) <| rl_nil <| run_seq <| run_seq <| run_region <| rl_v rfl rfl rfl (ov_move rfl rfl) <| rl_v rfl rfl rfl (ov_eql rfl rfl rfl) <| rl_nil <| Run.keep [1, 2, 5, 11] (F' := [(1, _), (2, _), (5, _), (11, _)]) rfl <| run_join1 (fun (v : Value) => [(5, v)]) [1, 2] (fun (v : Value) (w4 : World) => ∃ c, IRow v 2 M (fun i => iv ((X.fst n).getD i.toNat 0)) c ∧ Own B w0 w4 (c :: some (lch b2 69 (rwl X K)) :: H)) (fun hk5 => ?_) ?_
 ·first | refine run_cond_dec rfl (fun q1 => ?_) (fun q2 => ?_) | refine run_cond rfl (fun q1 => ?_) (fun q2 => ?_)
  ·rw [if_pos q1] at hfv
   have hOn := hO2.nil_cons
   refine run_region <| rl_v rfl rfl rfl (ov_move rfl rfl) <| rl_v rfl rfl rfl (ov_fieldS rfl Try.underlying69 rfl (fo := 0) rfl (by kernel_rfl) rfl) ?_
   refine rl_v rfl rfl rfl (ov_fieldS rfl Try.underlying24 rfl (fo := 2) rfl (by kernel_rfl) rfl) ?_
   refine rl_v rfl rfl rfl (ov_load rfl Try.underlying22 rfl rfl (by exact hOn.cellL 1 rfl hfv)) ?_
   refine rl_ow rfl (ow_appS rfl rfl rfl Try.underlying22 info_2 rfl hOn 0 (IRow.nil 2 (fun _ => iv 0)) rfl rfl rfl ((hfr hOn (mem_c1 (mem_c1 hN)))) (fun _ => rfl) ⟨by omega, by omega⟩) ?_
   rintro _ w6 ⟨v17, c17, rfl, hO7, hr17, hs8⟩
   refine rl_v rfl rfl rfl (ov_assign rfl rfl) <| rl_nil ?_
   refine Run.use (hk5 (v17) _ ?_) (And.intro rfl (And.intro rfl (And.intro rfl trivial)))
   exact ⟨c17, nil_join hr17, hO7⟩
  ·rw [if_neg q2] at hfv
   have hOn := hO2.nil_cons
   refine run_region <| rl_v rfl rfl rfl (ov_move rfl rfl) <| rl_v rfl rfl rfl (ov_fieldS rfl Try.underlying69 rfl (fo := 0) rfl (by kernel_rfl) rfl) ?_
   refine rl_v rfl rfl rfl (ov_fieldS rfl Try.underlying24 rfl (fo := 3) rfl (by kernel_rfl) rfl) ?_
   refine rl_v rfl rfl rfl (ov_load rfl Try.underlying22 rfl rfl (by exact hOn.cellL 1 rfl hfv)) ?_
   refine rl_ow rfl (ow_appS rfl rfl rfl Try.underlying22 info_2 rfl hOn 0 (IRow.nil 2 (fun _ => iv 0)) rfl rfl rfl ((hfr hOn (mem_c1 (mem_c1 hN)))) (fun _ => rfl) ⟨by omega, by omega⟩) ?_
   rintro _ w9 ⟨v17, c17, rfl, hO10, hr17, hs11⟩
   refine rl_v rfl rfl rfl (ov_assign rfl rfl) <| rl_nil ?_
   refine Run.use (hk5 (v17) _ ?_) (And.intro rfl (And.intro rfl (And.intro rfl trivial)))
   exact ⟨c17, nil_join hr17, hO10⟩
 ·intro v w4 hJw4
  obtain ⟨c, hr, hOj⟩ := hJw4
  show Run _ _ _ _ [(5, _), (1, _), (2, _)] _ _
  obtain ⟨a17, cp17, rfl⟩ := hr.val
  obtain ⟨bb, Gb0, rfl, hmc, hcm, rfl, hGb0⟩ := hr.asV (by omega)
  clear hr
  refine run_seq <| run_seq <| run_region <| rl_v rfl rfl rfl (ov_assign rfl rfl) <| rl_nil <| run_block <| Run.keep [1, 2, 5, 6] (F' := [(1, _), (2, _), (5, _), (6, _)]) rfl <| run_loop2 (fun (d : Int) (Gb : Int → Value) => [(6, .int .i64 d)]) [1, 2, 5] (fun (d : Int) (Gb : Int → Value) (w12 : World) => 1 ≤ d ∧ d ≤ (X.deals.length : Int) + 1 ∧ (∀ i : Int, 0 ≤ i → i < M → Gb i = iv (pbal X n (d - 1) i)) ∧ Own B w0 w12 (some (vch bb 2 cp17 Gb) :: some (lch b2 69 (rwl X K)) :: H)) (fun (d : Int) (Gb : Int → Value) => ((X.deals.length : Int) + 1 - d).toNat) (1) (Gb0) ?_ (And.intro (by exact slot_int rfl (by first | omega)) (And.intro rfl (And.intro rfl (And.intro rfl trivial)))) ?_
  ·exact ⟨by omega, by omega, fun i h0 h1 => (hGb0 i h0 h1).trans (congrArg iv (by show _ = (X.fst n).getD i.toNat 0 + sm _ 0; rw [sm_zero]; omega)), hOj⟩
  intro d Gb w12 hIw12 ih13
  obtain ⟨hd0, hd1, hGb, hOq⟩ := hIw12
  show Run _ _ _ _ [(6, _), (1, _), (2, _), (5, _)] _ _
  refine run_seq <| run_seq <| run_region <| rl_v rfl rfl rfl (ov_move rfl rfl) <| rl_v rfl rfl rfl (ov_fieldS rfl Try.underlying69 rfl (fo := 4) rfl (by kernel_rfl) rfl) ?_
  refine rl_v rfl rfl rfl (ov_load rfl Try.underlying25 rfl rfl (by exact hOq.cellL 1 rfl rfl)) ?_
  refine rl_v rfl rfl rfl (ov_len rfl Try.underlying25 rfl) <| rl_v rfl rfl rfl (ov_leq rfl rfl rfl) <| rl_nil ?_
  first | refine run_cond_dec rfl (fun hq => ?_) (fun hq => ?_) | refine run_cond rfl (fun hq => ?_) (fun hq => ?_)
  ·have hpb := pbal_bnd hG hn (k := d - 1) (by omega) (by omega)
   have hps := fun i => pbal_succ (X := X) (n := n) (k := d - 1) (by omega) i
   rw [show d - 1 + 1 = d by omega] at hps
   have hst := at_state hL hG hn d
   have hdone := state_done (hL n hn) d
   refine run_skip <| run_seq <| run_block <| run_seq <| run_region <| rl_v rfl rfl rfl (ov_loadW rfl Try.underlying69 rfl (by kernel_rfl) rfl hOq 1 rfl) ?_
   refine rl_v rfl rfl rfl (ov_move rfl rfl) <| rl_v rfl rfl rfl (ov_move rfl rfl) ?_
   refine rl_call callable_33 rfl rfl rfl rfl rfl rfl (rat_any X K n d B N _ w0 w12 hn hlen hOq (mem_c1 (mem_c1 hN)) hK) (fun e14 w15 hp16 => ?_)
   obtain ⟨rfl, hO2⟩ := hp16
   refine ⟨_, rfl, ?_⟩
   refine rl_v rfl rfl rfl (ov_eql rfl rfl rfl) <| rl_nil ?_
   first | refine run_cond_dec rfl (fun k1 => ?_) (fun k1n => ?_) | refine run_cond rfl (fun k1 => ?_) (fun k1n => ?_)
   ·have hin := hdone.1 (hst.symm.trans k1)
    obtain ⟨⟨p0, p1⟩, ⟨p2, p3⟩, pne, p4, p5⟩ := hG.pays (n := n) (d := d) ⟨hd0, hq⟩
    refine run_seq <| run_region <| rl_v rfl rfl rfl (ov_loadW rfl Try.underlying69 rfl (by kernel_rfl) rfl hO2 1 rfl) ?_
    refine rl_v rfl rfl rfl (ov_move rfl rfl) <| rl_v rfl rfl rfl (ov_move rfl rfl) ?_
    refine rl_call callable_60 rfl rfl rfl rfl rfl rfl (rleg_any X K n d B N _ w0 w15 hn ⟨hd0, hq⟩ hdn hO2 (mem_c1 (mem_c1 hN)) hK) (fun e17 w18 hp19 => ?_)
    obtain ⟨rfl, hO3⟩ := hp19
    refine ⟨_, rfl, ?_⟩
    have b1 := hpb (X.payer n d)
    have b2 := hpb (X.payee n d)
    have c1 : X.payer n d + 1 - 1 = X.payer n d := by omega
    have c2 : X.payee n d + 1 - 1 = X.payee n d := by omega
    have hGp : Gb (X.payer n d + 1 - 1) = iv (pbal X n (d - 1) (X.payer n d)) := by rw [c1]; exact hGb _ (by omega) (by omega)
    have hGq : ∀ u, upd Gb (X.payer n d + 1 - 1) u (X.payee n d + 1 - 1) = iv (pbal X n (d - 1) (X.payee n d)) := fun u => by rw [c1, c2, upd_ne _ _ (fun e => pne e.symm)]; exact hGb _ (by omega) (by omega)
    refine rl_v rfl rfl rfl (ov_move rfl rfl) <| rl_v rfl rfl rfl (ov_extract rfl rfl (by rfl)) ?_
    refine rl_v rfl rfl rfl (ov_extract rfl rfl (by rfl)) ?_
    refine rl_v rfl rfl rfl (ov_extract rfl rfl (by rfl)) ?_
    refine rl_v rfl rfl rfl (ov_assign rfl rfl) <| rl_v rfl rfl rfl (ov_assign rfl rfl) <| rl_v rfl rfl rfl (ov_assign rfl rfl) <| rl_nil <| run_seq <| run_region <| rl_v rfl rfl rfl (ov_move rfl rfl) <| rl_v rfl rfl rfl (ov_move rfl rfl) <| rl_v rfl rfl rfl (ov_sub rfl rfl rfl (by omega)) ?_
    refine rl_v rfl rfl rfl (ov_move rfl rfl) <| rl_v rfl rfl rfl (ov_move rfl rfl) <| rl_v rfl rfl rfl (ov_sub rfl rfl rfl (by omega)) ?_
    refine rl_v rfl rfl rfl (ov_index1 rfl Try.underlying22 (by kernel_rfl) rfl rfl ⟨by omega, by omega⟩ (by rfl)) ?_
    refine rl_v rfl rfl rfl (ov_load rfl Try.underlying2 rfl rfl (by exact (hO3.cellI 0 rfl _ (by omega) (by omega)).trans (congrArg some hGp))) ?_
    refine rl_v rfl rfl rfl (ov_move rfl rfl) <| rl_v rfl rfl rfl (ov_sub rfl rfl rfl (by omega)) ?_
    refine rl_v rfl rfl rfl (ov_index1 rfl Try.underlying22 (by kernel_rfl) rfl rfl ⟨by omega, by omega⟩ (by rfl)) ?_
    refine rl_ow rfl (ow_store rfl rfl (by kernel_rfl) hO3 0 rfl rfl ⟨by omega, by omega⟩ rfl rfl) ?_
    rintro _ w20 ⟨rfl, hO21, hs22⟩
    refine rl_nil <| run_region <| rl_v rfl rfl rfl (ov_move rfl rfl) <| rl_v rfl rfl rfl (ov_move rfl rfl) <| rl_v rfl rfl rfl (ov_sub rfl rfl rfl (by omega)) ?_
    refine rl_v rfl rfl rfl (ov_move rfl rfl) <| rl_v rfl rfl rfl (ov_move rfl rfl) <| rl_v rfl rfl rfl (ov_sub rfl rfl rfl (by omega)) ?_
    refine rl_v rfl rfl rfl (ov_index1 rfl Try.underlying22 (by kernel_rfl) rfl rfl ⟨by omega, by omega⟩ (by rfl)) ?_
    refine rl_v rfl rfl rfl (ov_load rfl Try.underlying2 rfl rfl (by exact (hO21.cellI 0 rfl _ (by omega) (by omega)).trans (congrArg some (hGq _)))) ?_
    refine rl_v rfl rfl rfl (ov_move rfl rfl) <| rl_v rfl rfl rfl (ov_add rfl rfl rfl (by omega)) ?_
    refine rl_v rfl rfl rfl (ov_index1 rfl Try.underlying22 (by kernel_rfl) rfl rfl ⟨by omega, by omega⟩ (by rfl)) ?_
    refine rl_ow rfl (ow_store rfl rfl (by kernel_rfl) hO21 0 rfl rfl ⟨by omega, by omega⟩ rfl rfl) ?_
    rintro _ w23 ⟨rfl, hO24, hs25⟩
    refine rl_nil <| run_inBlock <| run_region <| rl_v rfl rfl rfl (ov_move rfl rfl) <| rl_v rfl rfl rfl (ov_add rfl rfl rfl (by omega)) ?_
    refine rl_v rfl rfl rfl (ov_assign rfl rfl) <| rl_nil ?_
    refine Run.use (ih13 (d + 1) (upd (upd Gb (X.payer n d + 1 - 1) (iv (pbal X n (d - 1) (X.payer n d) - X.amount n d))) (X.payee n d + 1 - 1) (iv (pbal X n (d - 1) (X.payee n d) + X.amount n d))) _ ?_ ?_) (And.intro (by exact slot_int rfl (by first | omega)) (And.intro rfl (And.intro rfl (And.intro rfl trivial))))
    ·first | omega | (dsimp only; omega)
    ·exact ⟨by omega, by omega, bal_next hd0 pne hin hGb, hO24⟩
   ·have hin : (2, d) ∉ (X.lg n).recs := fun h => k1n (hst.trans (hdone.2 h))
    refine run_skip <| run_inBlock <| run_region <| rl_v rfl rfl rfl (ov_move rfl rfl) <| rl_v rfl rfl rfl (ov_add rfl rfl rfl (by omega)) ?_
    refine rl_v rfl rfl rfl (ov_assign rfl rfl) <| rl_nil ?_
    refine Run.use (ih13 (d + 1) (Gb) _ ?_ ?_) (And.intro (by exact slot_int rfl (by first | omega)) (And.intro rfl (And.intro rfl (And.intro rfl trivial))))
    ·first | omega | (dsimp only; omega)
    ·exact ⟨by omega, by omega, fun i h0 h1 => by rw [show d + 1 - 1 = d by omega, hps i, hGb i h0 h1]; unfold dlt; rw [if_neg hin]; exact congrArg iv (by omega), hO2⟩
  ·obtain rfl : d = (X.deals.length : Int) + 1 := by omega
   refine run_exit rfl <| run_seq <| run_region <| rl_v rfl rfl rfl (ov_move rfl rfl) <| rl_v rfl rfl rfl (ov_assign rfl rfl) <| rl_nil <| run_ret Try.func36 (res1 Try.results36 rfl) ?_
   exact ⟨_, _, rfl, IRow.ofV hmc hcm (fun i h0 h1 => (hGb i h0 h1).trans (congrArg iv (by rw [show (X.deals.length : Int) + 1 - 1 = X.deals.length by omega]; exact pbal_all hL hG hn i))), hOq.sub (.cons_cons _ (.cons _ (.refl _)))⟩
theorem rfree_any (X : MW) (K : RK) (n : Int) (B : Nat) (N H : List (Option Blk)) (w0 w : World) (hn : n = 1 ∨ n = 2) (hG : Good X) (hL : LInv X) (hO : Own B w0 w H) (hN : ∀ x ∈ N, x ∈ H) (hK : XIn N X K) :
  Calls Try.prog 37 #[rwv X K, iv n] w fun e w' => ∃ v c, e = .returned v ∧ IRow v 2 (X.fst n).length (fun i => iv (X.free n i)) c ∧ Own B w0 w' (c :: H) := by
 have hmem := hG.mem
 have hm := hG.fl n hn
 have hdn := hG.dn
 have hlen := hG.len (n := n) (by omega)
 generalize hM : (X.fst n).length = M at *
 refine calls_of_run (F := [(0, _), (1, _)]) Try.func37 rfl Try.ntmps37 rfl rfl <| run_seq <| run_region <| rl_ow rfl (ow_box _ rfl rfl rfl rfl rfl hO) ?_
 rintro _ w1 ⟨b2, rfl, hO2, hs3⟩
 refine rl_v rfl rfl rfl (ov_assign rfl rfl) <| rl_nil <| run_seq <| run_region <| rl_v rfl rfl rfl (ov_loadW rfl Try.underlying69 rfl (by kernel_rfl) rfl hO2 0 rfl) ?_
 refine rl_v rfl rfl rfl (ov_move rfl rfl) ?_
 refine rl_call callable_36 rfl rfl rfl rfl rfl rfl (rbal_any X K n B N _ w0 w1 hn hG hL hO2 (mem_c1 hN) hK) (fun e4 w5 hp6 => ?_)
 obtain ⟨v, c, rfl, hr, hOj⟩ := hp6
 refine ⟨_, rfl, ?_⟩
 rw [hM] at hr
 obtain ⟨a17, cp17, rfl⟩ := hr.val
 obtain ⟨bb, Gb0, rfl, hmc, hcm, rfl, hGb0⟩ := hr.asV (by omega)
 clear hr
 refine rl_v rfl rfl rfl (ov_assign rfl rfl) <| rl_nil <| run_seq <| run_seq <| run_region <| rl_v rfl rfl rfl (ov_assign rfl rfl) <| rl_nil <| run_block <| Run.keep [1, 2, 5, 6] (F' := [(1, _), (2, _), (5, _), (6, _)]) rfl <| run_loop2 (fun (d : Int) (Gb : Int → Value) => [(6, .int .i64 d)]) [1, 2, 5] (fun (d : Int) (Gb : Int → Value) (w7 : World) => 1 ≤ d ∧ d ≤ (X.deals.length : Int) + 1 ∧ (∀ i : Int, 0 ≤ i → i < M → Gb i = iv (X.bal n i - phld X n (d - 1) i)) ∧ Own B w0 w7 (some (vch bb 2 cp17 Gb) :: some (lch b2 69 (rwl X K)) :: H)) (fun (d : Int) (Gb : Int → Value) => ((X.deals.length : Int) + 1 - d).toNat) (1) (Gb0) ?_ (And.intro (by exact slot_int rfl (by first | omega)) (And.intro rfl (And.intro rfl (And.intro rfl trivial)))) ?_
 ·exact ⟨by omega, by omega, fun i h0 h1 => (hGb0 i h0 h1).trans (congrArg iv (by show _ = X.bal n i - sm _ 0; rw [sm_zero]; omega)), hOj⟩
 intro d Gb w7 hIw7 ih8
 obtain ⟨hd0, hd1, hGb, hOq⟩ := hIw7
 show Run _ _ _ _ [(6, _), (1, _), (2, _), (5, _)] _ _
 refine run_seq <| run_seq <| run_region <| rl_v rfl rfl rfl (ov_move rfl rfl) <| rl_v rfl rfl rfl (ov_fieldS rfl Try.underlying69 rfl (fo := 4) rfl (by kernel_rfl) rfl) ?_
 refine rl_v rfl rfl rfl (ov_load rfl Try.underlying25 rfl rfl (by exact hOq.cellL 1 rfl rfl)) ?_
 refine rl_v rfl rfl rfl (ov_len rfl Try.underlying25 rfl) <| rl_v rfl rfl rfl (ov_leq rfl rfl rfl) <| rl_nil ?_
 first | refine run_cond_dec rfl (fun hq => ?_) (fun hq => ?_) | refine run_cond rfl (fun hq => ?_) (fun hq => ?_)
 ·have hpb := pbal_bnd hG hn (k := X.deals.length) (by omega) (by omega)
  have hhb := phld_bnd (X := X) (n := n) hG (k := d - 1) (by omega) (by omega)
  have hba := fun i => pbal_all hL hG hn i
  have hps := fun i => phld_succ (X := X) (n := n) (k := d - 1) (by omega) i
  rw [show d - 1 + 1 = d by omega] at hps
  have hst := at_state hL hG hn d
  have hdone := state_prep (l := X.lg n) d
  refine run_skip <| run_seq <| run_block <| run_seq <| run_region <| rl_v rfl rfl rfl (ov_loadW rfl Try.underlying69 rfl (by kernel_rfl) rfl hOq 1 rfl) ?_
  refine rl_v rfl rfl rfl (ov_move rfl rfl) <| rl_v rfl rfl rfl (ov_move rfl rfl) ?_
  refine rl_call callable_33 rfl rfl rfl rfl rfl rfl (rat_any X K n d B N _ w0 w7 hn hlen hOq (mem_c1 (mem_c1 hN)) hK) (fun e9 w10 hp11 => ?_)
  obtain ⟨rfl, hO2⟩ := hp11
  refine ⟨_, rfl, ?_⟩
  refine rl_v rfl rfl rfl (ov_eql rfl rfl rfl) <| rl_nil ?_
  first | refine run_cond_dec rfl (fun k1 => ?_) (fun k1n => ?_) | refine run_cond rfl (fun k1 => ?_) (fun k1n => ?_)
  ·have hin := hdone.1 (hst.symm.trans k1)
   obtain ⟨⟨p0, p1⟩, ⟨p2, p3⟩, pne, p4, p5⟩ := hG.pays (n := n) (d := d) ⟨hd0, hq⟩
   refine run_seq <| run_region <| rl_v rfl rfl rfl (ov_loadW rfl Try.underlying69 rfl (by kernel_rfl) rfl hO2 1 rfl) ?_
   refine rl_v rfl rfl rfl (ov_move rfl rfl) <| rl_v rfl rfl rfl (ov_move rfl rfl) ?_
   refine rl_call callable_60 rfl rfl rfl rfl rfl rfl (rleg_any X K n d B N _ w0 w10 hn ⟨hd0, hq⟩ hdn hO2 (mem_c1 (mem_c1 hN)) hK) (fun e12 w13 hp14 => ?_)
   obtain ⟨rfl, hO3⟩ := hp14
   refine ⟨_, rfl, ?_⟩
   have b1 := hpb (X.payer n d)
   rw [hba] at b1
   have b2 := hhb (X.payer n d)
   have c1 : X.payer n d + 1 - 1 = X.payer n d := by omega
   have hGp : Gb (X.payer n d + 1 - 1) = iv (X.bal n (X.payer n d) - phld X n (d - 1) (X.payer n d)) := by rw [c1]; exact hGb _ (by omega) (by omega)
   refine rl_v rfl rfl rfl (ov_move rfl rfl) <| rl_v rfl rfl rfl (ov_extract rfl rfl (by rfl)) ?_
   refine rl_v rfl rfl rfl (ov_extract rfl rfl (by rfl)) ?_
   refine rl_v rfl rfl rfl (ov_extract rfl rfl (by rfl)) ?_
   refine rl_v rfl rfl rfl (ov_assign rfl rfl) <| rl_v rfl rfl rfl (ov_assign rfl rfl) <| rl_v rfl rfl rfl (ov_assign rfl rfl) <| rl_nil <| run_region <| rl_v rfl rfl rfl (ov_move rfl rfl) <| rl_v rfl rfl rfl (ov_move rfl rfl) <| rl_v rfl rfl rfl (ov_sub rfl rfl rfl (by omega)) ?_
   refine rl_v rfl rfl rfl (ov_move rfl rfl) <| rl_v rfl rfl rfl (ov_move rfl rfl) <| rl_v rfl rfl rfl (ov_sub rfl rfl rfl (by omega)) ?_
   refine rl_v rfl rfl rfl (ov_index1 rfl Try.underlying22 (by kernel_rfl) rfl rfl ⟨by omega, by omega⟩ (by rfl)) ?_
   refine rl_v rfl rfl rfl (ov_load rfl Try.underlying2 rfl rfl (by exact (hO3.cellI 0 rfl _ (by omega) (by omega)).trans (congrArg some hGp))) ?_
   refine rl_v rfl rfl rfl (ov_move rfl rfl) <| rl_v rfl rfl rfl (ov_sub rfl rfl rfl (by omega)) ?_
   refine rl_v rfl rfl rfl (ov_index1 rfl Try.underlying22 (by kernel_rfl) rfl rfl ⟨by omega, by omega⟩ (by rfl)) ?_
   refine rl_ow rfl (ow_store rfl rfl (by kernel_rfl) hO3 0 rfl rfl ⟨by omega, by omega⟩ rfl rfl) ?_
   rintro _ w15 ⟨rfl, hO16, hs17⟩
   refine rl_nil <| run_inBlock <| run_region <| rl_v rfl rfl rfl (ov_move rfl rfl) <| rl_v rfl rfl rfl (ov_add rfl rfl rfl (by omega)) ?_
   refine rl_v rfl rfl rfl (ov_assign rfl rfl) <| rl_nil ?_
   refine Run.use (ih8 (d + 1) (upd Gb (X.payer n d + 1 - 1) (iv (X.bal n (X.payer n d) - phld X n (d - 1) (X.payer n d) - X.amount n d))) _ ?_ ?_) (And.intro (by exact slot_int rfl (by first | omega)) (And.intro rfl (And.intro rfl (And.intro rfl trivial))))
   ·first | omega | (dsimp only; omega)
   ·exact ⟨by omega, by omega, hld_next hd0 hin hGb, hO16⟩
  ·have hin : ¬ ((1, d) ∈ (X.lg n).recs ∧ (2, d) ∉ (X.lg n).recs ∧ (3, d) ∉ (X.lg n).recs) := fun h => k1n (hst.trans (hdone.2 h))
   refine run_skip <| run_inBlock <| run_region <| rl_v rfl rfl rfl (ov_move rfl rfl) <| rl_v rfl rfl rfl (ov_add rfl rfl rfl (by omega)) ?_
   refine rl_v rfl rfl rfl (ov_assign rfl rfl) <| rl_nil ?_
   refine Run.use (ih8 (d + 1) (Gb) _ ?_ ?_) (And.intro (by exact slot_int rfl (by first | omega)) (And.intro rfl (And.intro rfl (And.intro rfl trivial))))
   ·first | omega | (dsimp only; omega)
   ·exact ⟨by omega, by omega, fun i h0 h1 => by rw [show d + 1 - 1 = d by omega, hps i, hGb i h0 h1]; unfold hld; rw [if_neg (fun h => hin ⟨h.1, h.2.1, h.2.2.1⟩)]; exact congrArg iv (by omega), hO2⟩
 ·obtain rfl : d = (X.deals.length : Int) + 1 := by omega
  refine run_exit rfl <| run_seq <| run_region <| rl_v rfl rfl rfl (ov_move rfl rfl) <| rl_v rfl rfl rfl (ov_assign rfl rfl) <| rl_nil <| run_ret Try.func37 (res1 Try.results37 rfl) ?_
  exact ⟨_, _, rfl, IRow.ofV hmc hcm (fun i h0 h1 => (hGb i h0 h1).trans (congrArg iv (by rw [show (X.deals.length : Int) + 1 - 1 = X.deals.length by omega, phld_all hL hG hn i]; rfl))), hOq.sub (.cons_cons _ (.cons _ (.refl _)))⟩
end Go.Proofs.Yteagflekbbchhaa
