import Derived.Test.YtlldeifbfpmbaaaGreatFcB
set_option maxRecDepth 100000
namespace Go.Proofs.YtlldeifbfpmbaaaGreat
open Go.RowKit Go.Proofs Go.MapKept
def Rows5 (W : Wish) (rb cp : Int → Nat) (M : List (Option Blk)) : Prop :=
 (∀ i : Int, 0 ≤ i → i < W.n → W.l i ≤ cp i ∧ cp i ≤ maxLen) ∧ ∀ (B : Nat) (w0 w : World), Own B w0 w M → ∀ i k : Int, 0 ≤ i → i < W.n → 0 ≤ k → k < W.l i → w.cell? ⟨rb i, 0 + k.toNat, none⟩ = some (iv (W.e i k))
def hdr (W : Wish) (rb cp p : Int → Nat) (i : Int) : Value := .slice (some ⟨rb i, p i, none⟩) (W.l i - p i) (cp i - p i)
def updN (p : Int → Nat) (i : Int) (q : Nat) : Int → Nat := fun j => if j = i then q else p j
theorem updN_self (p : Int → Nat) (i : Int) : updN p i (p i) = p := by
 funext j; unfold updN; split
 ·rename_i e; rw [e]
 ·rfl
theorem updN_same (p : Int → Nat) (i : Int) (q : Nat) : updN p i q i = q := if_pos rfl
theorem hdr_upd (W : Wish) (rb cp p : Int → Nat) (i : Int) (q : Nat) (j : Int) : upd (hdr W rb cp p) i (.slice (some ⟨rb i, q, none⟩) (W.l i - q) (cp i - q)) j = hdr W rb cp (updN p i q) j := by
 unfold upd hdr updN
 by_cases e : j = i
 ·subst e; rw [if_pos rfl, if_pos rfl]
 ·rw [if_neg e, if_neg e]
def varW (tg gbk tw wb : Nat) (W : Wish) (rb cp p : Int → Nat) (gone : Int → Bool) (T : List (Option Blk)) : List (Option Blk) :=
 some (lch tg 75 [.slice (some ⟨gbk, 0, none⟩) W.n W.n]) :: some (vch gbk 4 W.n (fun j => .bool (gone j))) :: some (lch tw 22 [.slice (some ⟨wb, 0, none⟩) W.n W.n]) :: some (vch wb 23 W.n (hdr W rb cp p)) :: T
theorem points_any (tg gbk tw wb B : Nat) (W : Wish) (rb cp p : Int → Nat) (gone : Int → Bool) (i : Int) (M T : List (Option Blk)) (w0 w : World) (hW : W.Ok) (hn : W.n ≤ 1000000) (hR : Rows5 W rb cp M) (hM : M.Sublist T) (i0 : 0 ≤ i) (i1 : i < W.n) (hl : W.l i ≤ 1000000) (hg : gone i = false) (hp1 : p i < W.l i) (hp : ∀ k : Int, 0 ≤ k → k < p i → gone (W.e i k) = true) (hO : Own B w0 w (varW tg gbk tw wb W rb cp p gone T)) :
  Calls Tryz.prog 99 #[iv i, ptr tg, ptr tw] w fun e w' => ∃ q : Nat, q < W.l i ∧ (∀ k : Int, 0 ≤ k → k < q → gone (W.e i k) = true) ∧ gone (W.e i q) = false ∧ e = .returned (iv (W.e i q)) ∧ Own B w0 w' (varW tg gbk tw wb W rb cp (updN p i q) gone T) := by
 have hcp := hR.1 i i0 i1
 have hmx : maxLen = 9223372036854775807 := rfl
 refine calls_of_run (F := [(0, _), (1, _), (2, _)]) Tryz.func99 rfl Tryz.ntmps99 rfl rfl <| run_seq <| run_region <| rl_v rfl rfl rfl (ov_assign rfl rfl) <| rl_nil <| run_seq <| run_block <| Run.keep [0, 1, 2] (F' := [(0, _), (1, _), (2, _)]) rfl <| run_loop1 (fun (q : Nat) => []) [0, 1, 2] (fun (q : Nat) (w1 : World) => q < W.l i ∧ (∀ k : Int, 0 ≤ k → k < q → gone (W.e i k) = true) ∧ Own B w0 w1 (varW tg gbk tw wb W rb cp (updN p i q) gone T)) (fun (q : Nat) => W.l i - q) (p i) ?_ (And.intro rfl (And.intro rfl (And.intro rfl trivial))) ?_
 ·exact ⟨hp1, hp, by rw [updN_self]; exact hO⟩
 intro q w1 hIw1 ih2
 obtain ⟨hq1, hq, hO⟩ := hIw1
 show Run _ _ _ _ [(0, _), (1, _), (2, _)] _ _
 have hrow := hR.2 B w0 _ (hO.sub ((((hM.cons _).cons _).cons _).cons _)) i q i0 i1 (by omega) (by omega)
 have her := hW.rng i q i0 i1 (by omega) (by omega)
 have hu := updN_same p i q
 have hr1 : World.cell? w1 ⟨rb i, updN p i q i + Int.toNat 0, none⟩ = some (iv (W.e i q)) := by rw [hu, show q + Int.toNat 0 = 0 + (q : Int).toNat by simp]; exact hrow
 refine run_seq <| run_seq <| run_quiet mixed (by kernel_rfl) ?_
 refine rq_v rfl rfl rfl (fun _ => ov_load rfl Tryz.underlying75 rfl rfl (by show World.cell? w1 _ = _; first | exact hO.cellI 0 rfl _ (by omega) (by omega) | exact hO.cellL 0 rfl rfl | exact hO.cellI 1 rfl _ (by omega) (by omega) | exact hO.cellL 1 rfl rfl | exact hO.cellI 2 rfl _ (by omega) (by omega) | exact hO.cellL 2 rfl rfl | exact hO.cellI 3 rfl _ (by omega) (by omega) | exact hO.cellL 3 rfl rfl | exact hO.cellI 4 rfl _ (by omega) (by omega) | exact hO.cellL 4 rfl rfl | exact hO.cellI 5 rfl _ (by omega) (by omega) | exact hO.cellL 5 rfl rfl)) ?_
 refine rq_v rfl rfl rfl (fun _ => ov_load rfl Tryz.underlying22 rfl rfl (by show World.cell? w1 _ = _; first | exact hO.cellI 0 rfl _ (by omega) (by omega) | exact hO.cellL 0 rfl rfl | exact hO.cellI 1 rfl _ (by omega) (by omega) | exact hO.cellL 1 rfl rfl | exact hO.cellI 2 rfl _ (by omega) (by omega) | exact hO.cellL 2 rfl rfl | exact hO.cellI 3 rfl _ (by omega) (by omega) | exact hO.cellL 3 rfl rfl | exact hO.cellI 4 rfl _ (by omega) (by omega) | exact hO.cellL 4 rfl rfl | exact hO.cellI 5 rfl _ (by omega) (by omega) | exact hO.cellL 5 rfl rfl)) ?_
 refine rq_v rfl rfl rfl (fun _ => ov_move rfl rfl) ?_
 refine rq_v rfl rfl rfl (fun _ => ov_index1 rfl Tryz.underlying22 (by kernel_rfl) rfl rfl ⟨by omega, by omega⟩ rfl) ?_
 refine rq_v rfl rfl rfl (fun _ => ov_load rfl Tryz.underlying23 rfl rfl (by show World.cell? w1 _ = _; first | exact hO.cellI 0 rfl _ (by omega) (by omega) | exact hO.cellL 0 rfl rfl | exact hO.cellI 1 rfl _ (by omega) (by omega) | exact hO.cellL 1 rfl rfl | exact hO.cellI 2 rfl _ (by omega) (by omega) | exact hO.cellL 2 rfl rfl | exact hO.cellI 3 rfl _ (by omega) (by omega) | exact hO.cellL 3 rfl rfl | exact hO.cellI 4 rfl _ (by omega) (by omega) | exact hO.cellL 4 rfl rfl | exact hO.cellI 5 rfl _ (by omega) (by omega) | exact hO.cellL 5 rfl rfl)) ?_
 refine rq_v rfl rfl rfl (fun _ => ov_index1 rfl Tryz.underlying23 (by kernel_rfl) rfl rfl ⟨by omega, by omega⟩ rfl) ?_
 refine rq_v rfl rfl rfl (fun _ => ov_load rfl Tryz.underlying3 rfl rfl (by show World.cell? w1 _ = _; first | exact id hr1)) ?_
 refine rq_v rfl rfl rfl (fun _ => ov_index1 rfl Tryz.underlying75 (by kernel_rfl) rfl rfl ⟨by omega, by omega⟩ rfl) ?_
 refine rq_v rfl rfl rfl (fun _ => ov_load rfl Tryz.underlying4 rfl rfl (by show World.cell? w1 _ = _; first | exact hO.cellI 0 rfl _ (by omega) (by omega) | exact hO.cellL 0 rfl rfl | exact hO.cellI 1 rfl _ (by omega) (by omega) | exact hO.cellL 1 rfl rfl | exact hO.cellI 2 rfl _ (by omega) (by omega) | exact hO.cellL 2 rfl rfl | exact hO.cellI 3 rfl _ (by omega) (by omega) | exact hO.cellL 3 rfl rfl | exact hO.cellI 4 rfl _ (by omega) (by omega) | exact hO.cellL 4 rfl rfl | exact hO.cellI 5 rfl _ (by omega) (by omega) | exact hO.cellL 5 rfl rfl)) ?_
 refine rq_nil (fun n3 => ?_)
 have hO5 := hO.drewN n3
 generalize World.drewN w1 n3 = w4 at hO5 ⊢
 first | refine run_cond_dec rfl (fun h1 => ?_) (fun h1 => ?_) | refine run_cond rfl (fun h1 => ?_) (fun h1 => ?_)
 ·have hne : (q : Int) ≠ (W.l i : Int) - 1 := fun e => by
   rw [e, hW.own i i0 i1, hg] at h1
   exact Bool.noConfusion h1
  have hq2 : q + 1 < W.l i := by omega
  refine run_skip <| run_block <| run_late (fun w' => Own B w0 w' (varW tg gbk tw wb W rb cp (updN p i q) gone T)) 8 mixed ?_
  have hO7 := hO5.drew
  generalize World.drew w4 = w6 at hO7 ⊢
  have hS8 : Own B w0 w6 (varW tg gbk tw wb W rb cp (updN p i q) gone T) := by exact hO7
  refine rhl_v 0 rfl (by kernel_rfl) rfl rfl rfl hS8 (fun _ hS => ov_load rfl Tryz.underlying22 rfl rfl (by exact hS.cellL 2 rfl rfl)) ?_
  refine rhl_v 1 rfl (by kernel_rfl) rfl rfl rfl hS8 (fun _ hS => ov_move rfl rfl) ?_
  refine rhl_v 2 rfl (by kernel_rfl) rfl rfl rfl hS8 (fun _ hS => ov_load rfl Tryz.underlying22 rfl rfl (by exact hS.cellL 2 rfl rfl)) ?_
  refine rhl_v 3 rfl (by kernel_rfl) rfl rfl rfl hS8 (fun _ hS => ov_move rfl rfl) ?_
  refine rhl_v 4 rfl (by kernel_rfl) rfl rfl rfl hS8 (fun _ hS => ov_index1 rfl Tryz.underlying22 (by kernel_rfl) rfl rfl ⟨by omega, by omega⟩ rfl) ?_
  refine rhl_v 5 rfl (by kernel_rfl) rfl rfl rfl hS8 (fun _ hS => ov_load rfl Tryz.underlying23 rfl rfl (by exact hS.cellI 3 rfl _ (by omega) (by omega))) ?_
  refine rhl_v 6 rfl (by kernel_rfl) rfl rfl rfl hS8 (fun _ hS => ov_sliceL rfl Tryz.underlying23 (by kernel_rfl) (s := 1) rfl rfl ⟨by omega, by omega⟩ (by omega) rfl) ?_
  refine rhl_v 7 rfl (by kernel_rfl) rfl rfl rfl hS8 (fun _ hS => ov_index1 rfl Tryz.underlying22 (by kernel_rfl) rfl rfl ⟨by omega, by omega⟩ rfl) ?_
  refine rhl_any1 8 (by kernel_rfl) ?_
  refine rcl_last rfl rfl (ow_store rfl rfl (by kernel_rfl) hO7 3 rfl rfl ⟨by omega, by omega⟩ rfl rfl) ?_
  rintro _ w9 ⟨rfl, hO10, hs11⟩
  have hst : ∀ j : Int, 0 ≤ j → j < W.n → upd (hdr W rb cp (updN p i q)) i (.slice (some ⟨rb i, updN p i q i + Int.toNat 1 * 1, none⟩) (W.l i - updN p i q i - Int.toNat 1) (cp i - updN p i q i - Int.toNat 1)) j = hdr W rb cp (updN p i (q + 1)) j := fun j _ _ => by
   have e1 : Int.toNat 1 = 1 := rfl
   rw [hu, e1, Nat.mul_one, Nat.sub_sub, Nat.sub_sub, hdr_upd]
   unfold hdr updN
   by_cases e : j = i <;> simp [e]
  refine rhl_done (by kernel_rfl) ?_
  refine run_inBlock ?_
  refine Run.use (ih2 (q + 1) _ ?_ ?_) (And.intro rfl (And.intro rfl (And.intro rfl trivial)))
  ·first | omega | (dsimp only; omega)
  ·exact ⟨hq2, fun k k0 k1 => by by_cases e : k = q; (rw [e]; exact h1); (exact hq k k0 (by omega)), hO10.congrI 3 rfl hst⟩
 ·have hr2 : World.cell? w4 ⟨rb i, updN p i q i + Int.toNat 0, none⟩ = some (iv (W.e i q)) := by rw [hu, show q + Int.toNat 0 = 0 + (q : Int).toNat by simp]; exact hR.2 B w0 _ (hO5.sub ((((hM.cons _).cons _).cons _).cons _)) i q i0 i1 (by omega) (by omega)
  refine run_exit rfl <| run_seq <| run_region <| rl_v rfl rfl rfl (ov_load rfl Tryz.underlying22 rfl rfl (by exact hO5.cellL 2 rfl rfl)) ?_
  refine rl_v rfl rfl rfl (ov_move rfl rfl) <| rl_v rfl rfl rfl (ov_index1 rfl Tryz.underlying22 (by kernel_rfl) rfl rfl ⟨by omega, by omega⟩ rfl) ?_
  refine rl_v rfl rfl rfl (ov_load rfl Tryz.underlying23 rfl rfl (by exact hO5.cellI 3 rfl _ (by omega) (by omega))) ?_
  refine rl_v rfl rfl rfl (ov_index1 rfl Tryz.underlying23 (by kernel_rfl) rfl rfl ⟨by omega, by omega⟩ rfl) ?_
  refine rl_v rfl rfl rfl (ov_load rfl Tryz.underlying3 rfl rfl (by exact id hr2)) ?_
  refine rl_v rfl rfl rfl (ov_assign rfl rfl) <| rl_nil <| run_ret Tryz.func99 (res1 Tryz.results99 rfl) ?_
  exact ⟨q, hq1, hq, h1, rfl, hO5⟩
end Go.Proofs.YtlldeifbfpmbaaaGreat
