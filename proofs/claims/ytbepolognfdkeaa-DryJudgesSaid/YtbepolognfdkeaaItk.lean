import Derived.Test.YtbepolognfdkeaaRgh
import Derived.Test.YtbepolognfdkeaaRgm
import Derived.Test.YtbepolognfdkeaaUti
import Derived.Test.YtbepolognfdkeaaGaE
set_option maxRecDepth 100000
namespace Go.Proofs.Ytbepolognfdkeaa
open Go.RowKit Go.Proofs Go.MapKept
abbrev KpI := Nat → (Int → Int) → List (Option Blk) → Prop
def YieldInt (l B : Nat) (w0 : World) (K : KpI) : Prop :=
 ∀ (N : Nat) (X : Int → Int) (KL T : List (Option Blk)) (w : World) (x : Int), K N X KL → N ≤ 1000000 → Own B w0 w (KL ++ T) →
  YieldAt (FW none) 0 Try.prog l #[iv x] w fun e w' => ∃ v, e = .returned v ∧ v = .bool true ∧ ∃ KL' : List (Option Blk), K (N + 1) (upd X N x) KL' ∧ Own B w0 w' (KL' ++ T)
def ItOk (gf : FuncId) (mt : TypeId) : Prop :=
 ∀ (l B b1 bm : Nat) (w0 w : World) (L : List (Int × Value)) (K : KpI) (X : Int → Int) (KL T : List (Option Blk)), (L.map (·.1)).Nodup → L.length ≤ 1000000 → YieldInt l B w0 K → K 0 X KL → Own B w0 w (some (lch b1 mt [.map (some bm)]) :: some (mch bm L) :: (KL ++ T)) →
  Calls Try.prog gf #[.func (.yield l) #[] #[], ptr b1] w fun e w' => e = .returned (.tuple #[]) ∧ ∃ (N : Nat) (X' : Int → Int) (KL' : List (Option Blk)), K N X' KL' ∧ KeysOf L N X' ∧ Own B w0 w' (some (lch b1 mt [.map (some bm)]) :: some (mch bm L) :: (KL' ++ T))
theorem perm_it {α : Type} {r a b : α} {KL T : List α} : (r :: a :: b :: (KL ++ T)).Perm (KL ++ (r :: a :: b :: T)) := by
 classical
 rw [List.perm_iff_count]
 intro z
 simp only [List.count_append, List.count_cons, List.count_nil]
 omega
theorem KeysTo.lt_len {L : List (Int × Value)} {seen : Array Nat} {N i : Nat} {X : Int → Int} {k : Int} {v : Value} (h : KeysTo L seen N X) (hi : L[i]? = some (k, v)) (hn : i ∉ seen) : N < L.length := by
 have h2 := h.step hi hn
 have hl := h2.len
 have key := pigeonG (e := fun j => (((seen.push i)[j.toNat]! : Nat) : Int)) (n := N + 1) (m := L.length) (fun j j0 j1 => ?_) (fun a b a0 a1 b0 b1 e => ?_)
 ·omega
 ·have hm : (seen.push i)[j.toNat]! ∈ seen.push i := by
   rw [getElem!_pos (seen.push i) j.toNat (by omega)]
   exact Array.getElem_mem _
  have := h2.lt _ hm
  omega
 ·have e2 : (seen.push i)[a.toNat]! = (seen.push i)[b.toNat]! := by
   omega
  rw [getElem!_pos (seen.push i) a.toNat (by omega), getElem!_pos (seen.push i) b.toNat (by omega)] at e2
  have := nodup_injM h2.nd (i := a.toNat) (j := b.toNat) (by rw [Array.length_toList]; omega) (by rw [Array.length_toList]; omega) (by simpa only [Array.getElem_toList] using e2)
  omega
theorem keysB_it : ItOk 82 114 := by
 intro l B b1 bm w0 w L K X KL T hnd hlen hY hK hO
 refine calls_of_run (F := [(0, _), (1, _)]) Try.func82 rfl Try.ntmps82 rfl rfl <| run_seq <| run_region <| rl_v rfl rfl rfl (ov_load rfl Try.underlying114 rfl rfl (by exact hO.cellL 0 rfl (off := 0) rfl)) ?_
 refine rl_ow rfl (ow_rangeM rfl rfl rfl Try.underlying114 hO 1 rfl rfl) ?_
 rintro _ w1 ⟨r, rfl, hO2⟩
 refine rl_nil <| run_block <| Run.keep [0, 5] (F' := [(0, _), (5, _)]) rfl <| run_loop3 (fun (seen : Array Nat) (N : Nat) (X1 : Int → Int) => []) [0, 5] (fun (seen : Array Nat) (N : Nat) (X1 : Int → Int) (w4 : World) => ∃ KL1 : List (Option Blk), K N X1 KL1 ∧ KeysTo L seen N X1 ∧ Own B w0 w4 (some (itc r bm L.length seen) :: some (lch b1 114 [.map (some bm)]) :: some (mch bm L) :: (KL1 ++ T))) (fun (seen : Array Nat) (N : Nat) (X1 : Int → Int) => L.length - N) (#[]) (0) (X) ?_ (And.intro rfl (And.intro rfl trivial)) ?_
 ·exact ⟨KL, hK, KeysTo.nil L X, hO2⟩
 intro seen N X1 w4 hIw4 ih5
 obtain ⟨KL1, hK1, hKT, hO1⟩ := hIw4
 show Run _ _ _ _ [(0, _), (5, _)] _ _
 refine run_seq <| run_region <| rl_ow rfl (ow_nextM rfl rfl rfl hO1 0 rfl 2 rfl rfl) ?_
 rintro _ w6 ⟨b, xs, seen2, rfl, hx0, hO7, hFn, hTn⟩
 refine rl_v rfl rfl rfl (ov_extract rfl rfl hx0) <| rl_nil <| run_seq ?_
 first | refine run_cond_dec rfl (fun c1 => ?_) (fun c1 => ?_) | refine run_cond rfl (fun c1 => ?_) (fun c1 => ?_)
 ·obtain ⟨i, k, v, hi, hns, rfl⟩ := hTn c1
  have hle := hKT.lt_len hi hns
  refine run_skip <| run_block <| run_seq <| run_region <| rl_v rfl rfl rfl (ov_entryM rfl hO7 0 rfl 2 rfl hi rfl) <| rl_v rfl rfl rfl (ov_extract rfl rfl (by rfl)) ?_
  refine rl_v rfl rfl rfl (ov_assign rfl rfl) <| rl_nil <| run_seq ?_
  have hOy := hO7.perm perm_it
  refine run_ci (n := 0) (ci_region (li_v rfl (fun _ h => by cases h) rfl rfl (ov_move rfl rfl) (li_v rfl (fun _ h => by cases h) rfl rfl (ov_move rfl rfl) (li_yield rfl rfl rfl rfl rfl rfl (hY N X1 KL1 _ _ k hK1 (by omega) hOy) (fun vy wy hp => ?_)))))
  obtain ⟨rfl, KL2, hK2, hO2⟩ := hp
  refine li_v rfl (fun _ h => by cases h) rfl rfl (ov_not rfl rfl) (li_nil (qk_run ?_))
  have hO3 := hO2.perm perm_it.symm
  refine run_cond_f rfl <| run_skip <| run_inBlock ?_
  refine Run.use (ih5 (seen.push i) (N + 1) (upd X1 N k) _ ?_ ?_) (And.intro rfl (And.intro rfl trivial))
  ·first | omega | (dsimp only; omega)
  ·exact ⟨KL2, hK2, hKT.step hi hns, hO3⟩
 ·have hb : b = false := by revert c1; cases b <;> simp
  refine run_exit rfl <| run_end Try.func82 (res0 Try.results82) ?_
  exact ⟨rfl, N, X1, KL1, hK1, hKT.all hnd (hFn hb).1, hO7.tail⟩
theorem keysI_it : ItOk 94 92 := by
 intro l B b1 bm w0 w L K X KL T hnd hlen hY hK hO
 refine calls_of_run (F := [(0, _), (1, _)]) Try.func94 rfl Try.ntmps94 rfl rfl <| run_seq <| run_region <| rl_v rfl rfl rfl (ov_load rfl Try.underlying92 rfl rfl (by exact hO.cellL 0 rfl (off := 0) rfl)) ?_
 refine rl_ow rfl (ow_rangeM rfl rfl rfl Try.underlying92 hO 1 rfl rfl) ?_
 rintro _ w1 ⟨r, rfl, hO2⟩
 refine rl_nil <| run_block <| Run.keep [0, 5] (F' := [(0, _), (5, _)]) rfl <| run_loop3 (fun (seen : Array Nat) (N : Nat) (X1 : Int → Int) => []) [0, 5] (fun (seen : Array Nat) (N : Nat) (X1 : Int → Int) (w4 : World) => ∃ KL1 : List (Option Blk), K N X1 KL1 ∧ KeysTo L seen N X1 ∧ Own B w0 w4 (some (itc r bm L.length seen) :: some (lch b1 92 [.map (some bm)]) :: some (mch bm L) :: (KL1 ++ T))) (fun (seen : Array Nat) (N : Nat) (X1 : Int → Int) => L.length - N) (#[]) (0) (X) ?_ (And.intro rfl (And.intro rfl trivial)) ?_
 ·exact ⟨KL, hK, KeysTo.nil L X, hO2⟩
 intro seen N X1 w4 hIw4 ih5
 obtain ⟨KL1, hK1, hKT, hO1⟩ := hIw4
 show Run _ _ _ _ [(0, _), (5, _)] _ _
 refine run_seq <| run_region <| rl_ow rfl (ow_nextM rfl rfl rfl hO1 0 rfl 2 rfl rfl) ?_
 rintro _ w6 ⟨b, xs, seen2, rfl, hx0, hO7, hFn, hTn⟩
 refine rl_v rfl rfl rfl (ov_extract rfl rfl hx0) <| rl_nil <| run_seq ?_
 first | refine run_cond_dec rfl (fun c1 => ?_) (fun c1 => ?_) | refine run_cond rfl (fun c1 => ?_) (fun c1 => ?_)
 ·obtain ⟨i, k, v, hi, hns, rfl⟩ := hTn c1
  have hle := hKT.lt_len hi hns
  refine run_skip <| run_block <| run_seq <| run_region <| rl_v rfl rfl rfl (ov_entryM rfl hO7 0 rfl 2 rfl hi rfl) <| rl_v rfl rfl rfl (ov_extract rfl rfl (by rfl)) ?_
  refine rl_v rfl rfl rfl (ov_assign rfl rfl) <| rl_nil <| run_seq ?_
  have hOy := hO7.perm perm_it
  refine run_ci (n := 0) (ci_region (li_v rfl (fun _ h => by cases h) rfl rfl (ov_move rfl rfl) (li_v rfl (fun _ h => by cases h) rfl rfl (ov_move rfl rfl) (li_yield rfl rfl rfl rfl rfl rfl (hY N X1 KL1 _ _ k hK1 (by omega) hOy) (fun vy wy hp => ?_)))))
  obtain ⟨rfl, KL2, hK2, hO2⟩ := hp
  refine li_v rfl (fun _ h => by cases h) rfl rfl (ov_not rfl rfl) (li_nil (qk_run ?_))
  have hO3 := hO2.perm perm_it.symm
  refine run_cond_f rfl <| run_skip <| run_inBlock ?_
  refine Run.use (ih5 (seen.push i) (N + 1) (upd X1 N k) _ ?_ ?_) (And.intro rfl (And.intro rfl trivial))
  ·first | omega | (dsimp only; omega)
  ·exact ⟨KL2, hK2, hKT.step hi hns, hO3⟩
 ·have hb : b = false := by revert c1; cases b <;> simp
  refine run_exit rfl <| run_end Try.func94 (res0 Try.results94) ?_
  exact ⟨rfl, N, X1, KL1, hK1, hKT.all hnd (hFn hb).1, hO7.tail⟩
end Go.Proofs.Ytbepolognfdkeaa
