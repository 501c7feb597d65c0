import Derived.Test.YtbcjfjldmfljgaaGreatHlB
import Derived.Test.YtbcjfjldmfljgaaGreatItk
import Derived.Test.YtbcjfjldmfljgaaGreatRep
import Derived.Test.YtbcjfjldmfljgaaGreatPrw
import Derived.Test.YtbcjfjldmfljgaaGreatGaD
import Derived.Test.YtbcjfjldmfljgaaGreatGaK
set_option maxRecDepth 100000
namespace Go.Proofs.YtbcjfjldmfljgaaGreat
open Go.RowKit Go.Proofs Go.MapKept
def W9 (x : Int) : Prop := 0 ≤ x ∧ x ≤ 1000000000
theorem gainH_any (ra pa : Option Addr) (nl rc pc : Nat) (f p : Int → Int) (w : World) (hn : nl ≤ 64) (hf : ∀ j : Int, 0 ≤ j → j < nl → W9 (f j)) (hp : ∀ j : Int, 0 ≤ j → j < nl → W9 (p j)) (hr : IAt w.heap.size w ra nl (fun j => iv (f j))) (hq : IAt w.heap.size w pa nl (fun j => iv (p j))) :
  Calls Tryz.prog 25 #[.slice ra nl rc, .slice pa nl pc] w fun e w' => e = .returned (iv (gnN (fun j => f j - p j) nl)) ∧ Own w.heap.size w w' [] := by
 obtain ⟨rb, ro, hra, hrr⟩ := hr.open
 obtain ⟨pb, po, hpa, hpr⟩ := hq.open
 refine calls_of_run (F := [(0, _), (1, _)]) Tryz.func25 rfl Tryz.ntmps25 rfl rfl ?_
 have hO0 := Own.init w
 refine run_seq <| run_region <| rl_v rfl rfl rfl (ov_assign rfl rfl) <| rl_nil <| run_seq <| run_region <| rl_v rfl rfl rfl (ov_assign rfl rfl) <| rl_nil <| run_seq <| run_seq <| run_region <| rl_v rfl rfl rfl (ov_move rfl rfl) <| rl_v rfl rfl rfl (ov_len rfl Tryz.underlying22 rfl) <| rl_v rfl rfl rfl (ov_move rfl rfl) <| rl_nil <| run_block <| Run.keep [1, 5, 8, 9, 10] (F' := [(1, _), (5, _), (8, _), (9, _), (10, _)]) rfl <| run_loop2 (fun (j : Nat) (g : Int) => [(10, .int .i64 (j : Int)), (5, .int .i64 g)]) [1, 8, 9] (fun (j : Nat) (g : Int) (w1 : World) => j ≤ nl ∧ g = gnN (fun j => f j - p j) j ∧ Own w.heap.size w w1 []) (fun (j : Nat) (g : Int) => nl - j) (0) (0) ?_ (And.intro (by exact slot_int rfl (by first | omega)) (And.intro (by exact slot_int rfl (by first | omega)) (And.intro rfl (And.intro rfl (And.intro rfl trivial))))) ?_
 ·exact ⟨Nat.zero_le _, rfl, hO0⟩
 intro j g w1 hIw1 ih2
 obtain ⟨hj, hg, hO1⟩ := hIw1
 show Run _ _ _ _ [(10, _), (5, _), (1, _), (8, _), (9, _)] _ _
 refine run_seq <| run_region <| rl_v rfl rfl rfl (ov_lss rfl rfl rfl) <| rl_nil <| run_seq ?_
 first | refine run_cond_dec rfl (fun c1 => ?_) (fun c1 => ?_) | refine run_cond rfl (fun c1 => ?_) (fun c1 => ?_)
 ·have hfj := hf j (by omega) c1
  have hpj := hp j (by omega) c1
  unfold W9 at hfj hpj
  refine run_skip <| run_seq <| run_block <| run_seq <| run_region <| rl_v rfl rfl rfl (ov_move rfl rfl) <| rl_v rfl rfl rfl (ov_index1 rfl Tryz.underlying22 (by kernel_rfl) rfl rfl ⟨by omega, by omega⟩ (by exact hra (by omega))) ?_
  refine rl_v rfl rfl rfl (ov_load rfl Tryz.underlying2 rfl rfl (by exact hrr _ hO1.below j (by omega) c1)) ?_
  refine rl_v rfl rfl rfl (ov_assign rfl rfl) <| rl_v rfl rfl rfl (ov_assign rfl rfl) <| rl_nil <| run_region <| rl_v rfl rfl rfl (ov_move rfl rfl) <| rl_v rfl rfl rfl (ov_move rfl rfl) <| rl_v rfl rfl rfl (ov_move rfl rfl) <| rl_v rfl rfl rfl (ov_move rfl rfl) <| rl_v rfl rfl rfl (ov_index1 rfl Tryz.underlying22 (by kernel_rfl) rfl rfl ⟨by omega, by omega⟩ (by exact hpa (by omega))) ?_
  refine rl_v rfl rfl rfl (ov_load rfl Tryz.underlying2 rfl rfl (by exact hpr _ hO1.below j (by omega) c1)) ?_
  refine rl_v rfl rfl rfl (ov_sub rfl rfl rfl (by omega)) ?_
  refine rl_v rfl rfl rfl (ov_max rfl rfl rfl) <| rl_v rfl rfl rfl (ov_assign rfl rfl) <| rl_nil <| run_inBlock <| run_region <| rl_v rfl rfl rfl (ov_add rfl rfl rfl (by omega)) ?_
  refine rl_v rfl rfl rfl (ov_move rfl rfl) <| rl_nil ?_
  refine Run.use (ih2 (j + 1) (max g (f j - p j)) _ ?_ ?_) (And.intro (by exact slot_int rfl (by first | omega)) (And.intro (by exact slot_int rfl (by first | omega)) (And.intro rfl (And.intro rfl (And.intro rfl trivial)))))
  ·first | omega | (dsimp only; omega)
  ·exact ⟨by omega, by rw [hg]; rfl, hO1⟩
 ·have hjn : j = nl := by omega
  rw [hjn] at hg
  refine run_exit rfl <| run_seq <| run_region <| rl_v rfl rfl rfl (ov_move rfl rfl) <| rl_v rfl rfl rfl (ov_assign rfl rfl) <| rl_nil <| run_ret Tryz.func25 (res1 Tryz.results25 rfl) ?_
  exact ⟨by rw [hg], hO1⟩
theorem wantsH_any (ra pa : Option Addr) (nl rc pc : Nat) (f p : Int → Int) (w : World) (hn : nl ≤ 64) (hf : ∀ j : Int, 0 ≤ j → j < nl → W9 (f j)) (hp : ∀ j : Int, 0 ≤ j → j < nl → W9 (p j)) (hr : IAt w.heap.size w ra nl (fun j => iv (f j))) (hq : IAt w.heap.size w pa nl (fun j => iv (p j))) :
  Calls Tryz.prog 24 #[.slice ra nl rc, .slice pa nl pc] w fun e w' => ∃ (v : Value) (c : Nat) (K : Int → Int) (cb : Option Blk), e = .returned v ∧ Pick (fun j => f j - p j = gnN (fun j => f j - p j) nl) nl c K ∧ IRow v 3 c (fun k => iv (K k)) cb ∧ (c = 0 → v = .slice none 0 0) ∧ Own w.heap.size w w' [cb] := by
 obtain ⟨rb, ro, hra, hrr⟩ := hr.open
 obtain ⟨pb, po, hpa, hpr⟩ := hq.open
 refine calls_of_run (F := [(0, _), (1, _)]) Tryz.func24 rfl Tryz.ntmps24 rfl rfl ?_
 have hO0 := Own.init w
 refine run_seq <| run_region <| rl_v rfl rfl rfl (ov_assign rfl rfl) <| rl_nil <| run_seq <| run_region <| rl_v rfl rfl rfl (ov_move rfl rfl) <| rl_v rfl rfl rfl (ov_move rfl rfl) ?_
 refine rl_call callable_25 rfl rfl rfl rfl rfl rfl (gainH_any ra pa nl rc pc f p _ hn hf hp (hO0.iatU hr) (hO0.iatU hq)) (fun e1 w2 hp3 => ?_)
 obtain ⟨rfl, hOa⟩ := hp3
 refine ⟨_, rfl, ?_⟩
 have hO4 := hO0.join hOa
 refine rl_v rfl rfl rfl (ov_assign rfl rfl) <| rl_nil <| run_seq <| run_region <| rl_v rfl rfl rfl (ov_assign rfl rfl) <| rl_nil <| run_seq <| run_seq <| run_region <| rl_v rfl rfl rfl (ov_move rfl rfl) <| rl_v rfl rfl rfl (ov_len rfl Tryz.underlying22 rfl) <| rl_v rfl rfl rfl (ov_move rfl rfl) <| rl_nil <| run_block <| Run.keep [1, 5, 6, 12, 13, 14] (F' := [(1, _), (5, _), (6, _), (12, _), (13, _), (14, _)]) rfl <| run_loop3 (fun (j : Nat) (v : Value) (c : Nat) => [(14, .int .i64 (j : Int)), (6, v)]) [1, 5, 12, 13] (fun (j : Nat) (v : Value) (c : Nat) (w5 : World) => j ≤ nl ∧ ∃ (K : Int → Int) (cb : Option Blk), Pick (fun j => f j - p j = gnN (fun j => f j - p j) nl) j c K ∧ IRow v 3 c (fun k => iv (K k)) cb ∧ (c = 0 → v = .slice none 0 0) ∧ Own w.heap.size w w5 [cb]) (fun (j : Nat) (v : Value) (c : Nat) => nl - j) (0) (.slice none 0 0) (0) ?_ (And.intro (by exact slot_int rfl (by first | omega)) (And.intro rfl (And.intro rfl (And.intro rfl (And.intro rfl (And.intro rfl trivial)))))) ?_
 ·exact ⟨Nat.zero_le _, fun _ => 0, none, Pick.nil _ _, IRow.nil _ _, fun _ => rfl, hO4.nil_cons⟩
 intro j v c w5 hIw5 ih6
 obtain ⟨hj, K, cb, hK, hv, hz, hO1⟩ := hIw5
 show Run _ _ _ _ [(14, _), (6, _), (1, _), (5, _), (12, _), (13, _)] _ _
 refine run_seq <| run_region <| rl_v rfl rfl rfl (ov_lss rfl rfl rfl) <| rl_nil <| run_seq ?_
 first | refine run_cond_dec rfl (fun c1 => ?_) (fun c1 => ?_) | refine run_cond rfl (fun c1 => ?_) (fun c1 => ?_)
 ·have hfj := hf j (by omega) c1
  have hpj := hp j (by omega) c1
  have hle := hK.le
  unfold W9 at hfj hpj
  refine run_skip <| run_seq <| run_block <| run_seq <| run_region <| rl_v rfl rfl rfl (ov_move rfl rfl) <| rl_v rfl rfl rfl (ov_index1 rfl Tryz.underlying22 (by kernel_rfl) rfl rfl ⟨by omega, by omega⟩ (by exact hra (by omega))) ?_
  refine rl_v rfl rfl rfl (ov_load rfl Tryz.underlying2 rfl rfl (by exact hrr _ hO1.below j (by omega) c1)) ?_
  refine rl_v rfl rfl rfl (ov_assign rfl rfl) <| rl_v rfl rfl rfl (ov_assign rfl rfl) <| rl_nil <| run_seq <| run_region <| rl_v rfl rfl rfl (ov_move rfl rfl) <| rl_v rfl rfl rfl (ov_move rfl rfl) <| rl_v rfl rfl rfl (ov_move rfl rfl) <| rl_v rfl rfl rfl (ov_index1 rfl Tryz.underlying22 (by kernel_rfl) rfl rfl ⟨by omega, by omega⟩ (by exact hpa (by omega))) ?_
  refine rl_v rfl rfl rfl (ov_load rfl Tryz.underlying2 rfl rfl (by exact hpr _ hO1.below j (by omega) c1)) ?_
  refine rl_v rfl rfl rfl (ov_sub rfl rfl rfl (by omega)) ?_
  refine rl_v rfl rfl rfl (ov_move rfl rfl) <| rl_v rfl rfl rfl (ov_eql rfl rfl rfl) <| rl_nil ?_
  first | refine run_cond_dec rfl (fun c2 => ?_) (fun c2 => ?_) | refine run_cond rfl (fun c2 => ?_) (fun c2 => ?_)
  ·refine run_region <| rl_v rfl rfl rfl (ov_move rfl rfl) <| rl_v rfl rfl rfl (ov_move rfl rfl) <| rl_ow rfl (ow_one rfl rfl rfl Tryz.underlying30 info_3 rfl hO1 rfl rfl) ?_
   rintro _ w7 ⟨b29, rfl, hO8, hs9⟩
   refine rl_ow rfl (ow_app1 rfl rfl rfl Tryz.underlying30 info_3 rfl hO8 0 hv rfl rfl rfl rfl ⟨by omega, by omega⟩) ?_
   rintro _ w10 ⟨v30, c30, rfl, hO11, hv30, hs12⟩
   refine rl_v rfl rfl rfl (ov_assign rfl rfl) <| rl_nil <| run_inBlock <| run_region <| rl_v rfl rfl rfl (ov_add rfl rfl rfl (by omega)) ?_
   refine rl_v rfl rfl rfl (ov_move rfl rfl) <| rl_nil ?_
   refine Run.use (ih6 (j + 1) (v30) (c + 1) _ ?_ ?_) (And.intro (by exact slot_int rfl (by first | omega)) (And.intro rfl (And.intro rfl (And.intro rfl (And.intro rfl (And.intro rfl trivial))))))
   ·first | omega | (dsimp only; omega)
   ·exact ⟨by omega, upd K c j, c30, hK.yes c2, hv30.congr (fun k _ _ => by unfold upd; split <;> rfl), fun h => by omega, hO11⟩
  ·refine run_skip <| run_inBlock <| run_region <| rl_v rfl rfl rfl (ov_add rfl rfl rfl (by omega)) ?_
   refine rl_v rfl rfl rfl (ov_move rfl rfl) <| rl_nil ?_
   refine Run.use (ih6 (j + 1) (v) (c) _ ?_ ?_) (And.intro (by exact slot_int rfl (by first | omega)) (And.intro rfl (And.intro rfl (And.intro rfl (And.intro rfl (And.intro rfl trivial))))))
   ·first | omega | (dsimp only; omega)
   ·exact ⟨by omega, K, cb, hK.no c2, hv, hz, hO1⟩
 ·have hjn : j = nl := by omega
  rw [hjn] at hK
  refine run_exit rfl <| run_seq <| run_region <| rl_v rfl rfl rfl (ov_move rfl rfl) <| rl_v rfl rfl rfl (ov_assign rfl rfl) <| rl_nil <| run_ret Tryz.func24 (res1 Tryz.results24 rfl) ?_
  exact ⟨v, c, K, cb, rfl, hK, hv, hz, hO1⟩
abbrev mtB (mb lb bb : Nat) (wa : Option Addr) (nb wc nl : Nat) : Option Blk := some (lch mb 112 [.slice wa nb wc, .slice (some ⟨lb, 0, none⟩) nb nb, .slice (some ⟨bb, 0, none⟩) nl nl])
theorem newMat_any (wa : Option Addr) (nb wc nl : Nat) (w : World) (h1 : nb ≤ 1000) (h2 : nl ≤ 1000) :
  Calls Tryz.prog 52 #[.slice wa nb wc, iv nl] w fun e w' => ∃ mb lb bb : Nat, e = .returned (ptr mb) ∧ Own w.heap.size w w' [some (vch bb 3 nl (fun _ => iv (-1))), some (vch lb 3 nb (fun _ => iv (-1))), mtB mb lb bb wa nb wc nl] := by
 refine calls_of_run (F := [(0, _), (1, _)]) Tryz.func52 rfl Tryz.ntmps52 rfl rfl ?_
 have hO0 := Own.init w
 refine run_seq <| run_region <| rl_v rfl rfl rfl (ov_assign rfl rfl) <| rl_nil <| run_seq <| run_region <| rl_v rfl rfl rfl (ov_move rfl rfl) <| rl_ow rfl (ow_one rfl rfl rfl Tryz.underlying30 info_3 rfl hO0 rfl rfl) ?_
 rintro _ w1 ⟨b7, rfl, hO2, hs3⟩
 refine rl_v rfl rfl rfl (ov_move rfl rfl) <| rl_v rfl rfl rfl (ov_len rfl Tryz.underlying85 rfl) ?_
 refine rl_call callable_77 rfl rfl rfl rfl rfl rfl (repeatR'_any (some ⟨b7, 0, none⟩) 1 nb (-1) _ (by omega) (hO2.reads 0 rfl 1 (Nat.le_refl _))) (fun e4 w5 hp6 => ?_)
 obtain ⟨lb, rfl, hOa⟩ := hp6
 refine ⟨_, rfl, ?_⟩
 have hO7 := hO2.join hOa
 refine rl_ow rfl (ow_one rfl rfl rfl Tryz.underlying30 info_3 rfl hO7 rfl rfl) ?_
 rintro _ w8 ⟨b11, rfl, hO9, hs10⟩
 refine rl_v rfl rfl rfl (ov_move rfl rfl) ?_
 refine rl_call callable_77 rfl rfl rfl rfl rfl rfl (repeatR'_any (some ⟨b11, 0, none⟩) 1 nl (-1) _ (by omega) (hO9.reads 0 rfl 1 (Nat.le_refl _))) (fun e11 w12 hp13 => ?_)
 obtain ⟨bb, rfl, hOb⟩ := hp13
 refine ⟨_, rfl, ?_⟩
 have hO14 := hO9.join hOb
 refine rl_v rfl rfl rfl (ov_buildL rfl lay_112 rfl (us := [_, _, _]) rfl) <| rl_ow rfl (ow_box _ rfl rfl rfl rfl rfl hO14) ?_
 rintro _ w15 ⟨mb, rfl, hO16, hs17⟩
 refine rl_v rfl rfl rfl (ov_assign rfl rfl) <| rl_nil <| run_seq <| run_region <| rl_v rfl rfl rfl (ov_move rfl rfl) <| rl_v rfl rfl rfl (ov_assign rfl rfl) <| rl_nil <| run_ret Tryz.func52 (res1 Tryz.results52 rfl) ?_
 exact ⟨mb, lb, bb, rfl, (hO16.perm (List.perm_append_comm (l₁ := [_]) (l₂ := [_, _, _, _]))).sub (.cons_cons _ (.cons _ (.cons_cons _ (.cons _ (.cons_cons _ (List.nil_sublist _))))))⟩
def opG (L : Int → Nat) (E : Int → Int → Int) (br : Int → Bool) (i k : Int) : Prop := (∃ j : Int, (0 ≤ j ∧ j < L i) ∧ E i j = k) ∧ br k = false
abbrev gvL (bb sb lb mb : Nat) (wa : Option Addr) (nb wc n : Nat) (Lo : Int → Value) (of : Int → Int) (s : Int → Bool) (R : List (Option Blk)) : List (Option Blk) :=
 some (vch bb 3 n (fun j => iv (of j))) :: some (vch sb 4 n (fun j => .bool (s j))) :: some (vch lb 3 nb Lo) :: mtB mb lb bb wa nb wc n :: R
def GvQ (B : Nat) (w0 : World) (bb sb lb mb : Nat) (wa : Option Addr) (nb wc n : Nat) (R : List (Option Blk)) (op : Int → Int → Prop) (i : Int) (of : Int → Int) (s : Int → Bool) (e : Ending) (w' : World) : Prop :=
 ∃ (b : Bool) (of' : Int → Int) (s' : Int → Bool) (Lo' : Int → Value), e = .returned (.bool b) ∧ Own B w0 w' (gvL bb sb lb mb wa nb wc n Lo' of' s' R) ∧ (b = true → KS n op i of s of' ∧ ∀ k : Int, 0 ≤ k → k < n → of' k < nb) ∧ (b = false → of' = of ∧ KF n op i of s s')
structure GvS (B : Nat) (w0 w : World) (bb sb lb mb : Nat) (wa : Option Addr) (nb wc n : Nat) (R : List (Option Blk)) (op : Int → Int → Prop) (i : Int) (of : Int → Int) (s : Int → Bool) (Lo : Int → Value) : Prop where
 i0 : 0 ≤ i
 i1 : i < nb
 ofr : ∀ k : Int, 0 ≤ k → k < n → -1 ≤ of k ∧ of k < nb
 ok : ∀ k : Int, 0 ≤ k → k < n → 0 ≤ of k → op (of k) k
 o : Own B w0 w (gvL bb sb lb mb wa nb wc n Lo of s R)
set_option maxHeartbeats 8000000 in
theorem giveH_any {B : Nat} {w0 : World} {wa : Option Addr} {nb n : Nat} {L : Int → Nat} {E : Int → Int → Int} (hn : n ≤ 1000) (hnb : nb ≤ 1000) (hW : ITab B w0 wa nb L (fun r c => iv (E r c))) (hL : ∀ i : Int, 0 ≤ i → i < nb → L i ≤ 1000) (hE : ∀ i k : Int, 0 ≤ i → i < nb → 0 ≤ k → k < L i → 0 ≤ E i k ∧ E i k < n) (bb sb lb mb ab wc : Nat) (br : Int → Bool) (R : List (Option Blk)) (hbar : ∀ (w' : World) (Lo : Int → Value) (of : Int → Int) (s : Int → Bool), Own B w0 w' (gvL bb sb lb mb wa nb wc n Lo of s R) → ∀ j : Int, 0 ≤ j → j < n → w'.cell? ⟨ab, 0 + j.toNat, none⟩ = some (.bool (br j))) :
  ∀ (u : Nat) (i : Int) (of : Int → Int) (s : Int → Bool) (Lo : Int → Value) (w : World), uns s n = u → GvS B w0 w bb sb lb mb wa nb wc n R (opG L E br) i of s Lo →
   Calls Tryz.prog 53 #[ptr mb, iv i, .slice (some ⟨ab, 0, none⟩) n n, .slice (some ⟨sb, 0, none⟩) n n] w (GvQ B w0 bb sb lb mb wa nb wc n R (opG L E br) i of s) := by
 obtain ⟨Ag, Cg, RB, RO, gb1, go1, hga1, hrow1, hra1, hel1, _⟩ := hW.open
 intro u
 induction u using Nat.strongRecOn with
 | ind u ih =>
  intro i of s Lo w hu hS
  obtain ⟨i0, i1, hofr, hok, hO⟩ := hS
  have hLi := hL i i0 i1
  refine calls_of_run (F := [(0, _), (1, _), (2, _), (3, _)]) Tryz.func53 rfl Tryz.ntmps53 rfl rfl <| run_seq <| run_region <| rl_v rfl rfl rfl (ov_assign rfl rfl) <| rl_nil <| run_seq <| run_seq <| run_region <| rl_v rfl rfl rfl (ov_move rfl rfl) <| rl_v rfl rfl rfl (ov_nil rfl rfl) <| rl_v rfl rfl rfl (ov_fieldS rfl Tryz.underlying112 rfl (fo := 0) rfl (by kernel_rfl) rfl) ?_
  refine rl_v rfl rfl rfl (ov_load rfl Tryz.underlying85 rfl rfl (by exact hO.cellL 3 rfl (off := 0) rfl)) ?_
  refine rl_v rfl rfl rfl (ov_move rfl rfl) <| rl_v rfl rfl rfl (ov_index1 rfl Tryz.underlying85 (by kernel_rfl) rfl rfl ⟨by omega, by omega⟩ (by exact hga1 (by omega))) ?_
  refine rl_v rfl rfl rfl (ov_load rfl Tryz.underlying30 rfl rfl (by exact hrow1 _ hO.below i i0 i1)) ?_
  refine rl_v rfl rfl rfl (ov_len rfl Tryz.underlying30 rfl) <| rl_v rfl rfl rfl (ov_move rfl rfl) <| rl_nil <| run_block <| Run.keep [0, 1, 2, 3, 18, 19, 20] (F' := [(0, _), (1, _), (2, _), (3, _), (18, _), (19, _), (20, _)]) rfl <| run_loop3 (fun (p : Nat) (s1 : Int → Bool) (Lo1 : Int → Value) => [(20, .int .i64 (p : Int))]) [0, 1, 2, 3, 18, 19] (fun (p : Nat) (s1 : Int → Bool) (Lo1 : Int → Value) (w1 : World) => p ≤ L i ∧ KL n (opG L E br) of s s1 ∧ (∀ j : Int, 0 ≤ j → j < p → br (E i j) = false → s1 (E i j) = true) ∧ Own B w0 w1 (gvL bb sb lb mb wa nb wc n Lo1 of s1 R)) (fun (p : Nat) (s1 : Int → Bool) (Lo1 : Int → Value) => L i - p) (0) (s) (Lo) ?_ (And.intro (by exact slot_int rfl (by first | omega)) (And.intro rfl (And.intro rfl (And.intro rfl (And.intro rfl (And.intro rfl (And.intro rfl trivial))))))) ?_
  ·exact ⟨Nat.zero_le _, KL.refl _ _ _ _, fun j a b => by omega, hO⟩
  intro p s1 Lo1 w1 hIw1 ih2
  obtain ⟨hp, hKL, hall, hO1⟩ := hIw1
  show Run _ _ _ _ [(20, _), (0, _), (1, _), (2, _), (3, _), (18, _), (19, _)] _ _
  refine run_seq <| run_region <| rl_v rfl rfl rfl (ov_lss rfl rfl rfl) <| rl_nil <| run_seq ?_
  first | refine run_cond_dec rfl (fun c1 => ?_) (fun c1 => ?_) | refine run_cond rfl (fun c1 => ?_) (fun c1 => ?_)
  ·have hx := hE i p i0 i1 (by omega) c1
   refine run_skip <| run_seq <| run_block <| run_seq <| run_region <| rl_v rfl rfl rfl (ov_index1 rfl Tryz.underlying30 (by kernel_rfl) rfl rfl ⟨by omega, by omega⟩ (by exact hra1 i i0 i1 (by omega))) ?_
   refine rl_v rfl rfl rfl (ov_load rfl Tryz.underlying3 rfl rfl (by exact hel1 _ hO1.below i i0 i1 p (by omega) c1)) ?_
   refine rl_v rfl rfl rfl (ov_assign rfl rfl) <| rl_nil <| run_seq <| run_seq <| run_region <| rl_v rfl rfl rfl (ov_move rfl rfl) <| rl_v rfl rfl rfl (ov_move rfl rfl) <| rl_v rfl rfl rfl (ov_index1 rfl Tryz.underlying84 (by kernel_rfl) rfl rfl ⟨by omega, by omega⟩ (by rfl)) ?_
   refine rl_v rfl rfl rfl (ov_load rfl Tryz.underlying4 rfl rfl (by exact hO1.cellI 1 rfl (E i p) hx.1 hx.2)) ?_
   refine rl_v rfl rfl rfl (ov_move rfl rfl) ?_
   first | refine rl_split_dec 28 rfl (fun g1 => ?_) (fun g1 => ?_) | refine rl_split 28 rfl (fun g1 => ?_) (fun g1 => ?_)
   ·refine rl_gskip rfl rfl rfl rfl rfl rfl <| rl_gskip rfl rfl rfl rfl rfl rfl <| rl_gskip rfl rfl rfl rfl rfl rfl <| rl_gskip rfl rfl rfl rfl rfl rfl <| rl_v rfl rfl rfl (ov_pick_t rfl rfl rfl) <| rl_nil <| run_cond_t rfl <| run_exit rfl <| run_region <| rl_v rfl rfl rfl (ov_add rfl rfl rfl (by omega)) ?_
    refine rl_v rfl rfl rfl (ov_move rfl rfl) <| rl_nil ?_
    refine Run.use (ih2 (p + 1) (s1) (Lo1) _ ?_ ?_) (And.intro (by exact slot_int rfl (by first | omega)) (And.intro rfl (And.intro rfl (And.intro rfl (And.intro rfl (And.intro rfl (And.intro rfl trivial)))))))
    ·first | omega | (dsimp only; omega)
    ·exact ⟨by omega, hKL, fun j j0 j1 hj => by by_cases e : j = p; (rw [e]; exact g1); (exact hall j j0 (by omega) hj), hO1⟩
   ·refine rl_gv rfl rfl rfl rfl rfl (ov_move rfl rfl) <| rl_gv rfl rfl rfl rfl rfl (ov_move rfl rfl) <| rl_gv rfl rfl rfl rfl rfl (ov_index1 rfl Tryz.underlying84 (by kernel_rfl) rfl rfl ⟨by omega, by omega⟩ (by rfl)) ?_
    refine rl_gv rfl rfl rfl rfl rfl (ov_load rfl Tryz.underlying4 rfl rfl (by exact hbar _ _ _ _ hO1 (E i p) hx.1 hx.2)) ?_
    refine rl_v rfl rfl rfl (ov_pick_f rfl rfl rfl) <| rl_nil ?_
    first | refine run_cond_dec rfl (fun g2 => ?_) (fun g2 => ?_) | refine run_cond rfl (fun g2 => ?_) (fun g2 => ?_)
    ·refine run_exit rfl <| run_region <| rl_v rfl rfl rfl (ov_add rfl rfl rfl (by omega)) ?_
     refine rl_v rfl rfl rfl (ov_move rfl rfl) <| rl_nil ?_
     refine Run.use (ih2 (p + 1) (s1) (Lo1) _ ?_ ?_) (And.intro (by exact slot_int rfl (by first | omega)) (And.intro rfl (And.intro rfl (And.intro rfl (And.intro rfl (And.intro rfl (And.intro rfl trivial)))))))
     ·first | omega | (dsimp only; omega)
     ·exact ⟨by omega, hKL, fun j j0 j1 hj => by by_cases e : j = p; (rw [e, g2] at hj; exact Bool.noConfusion hj); (exact hall j j0 (by omega) hj), hO1⟩
    ·have hsk : s1 (E i p) = false := g1
     have hbr : br (E i p) = false := g2
     have hopp : opG L E br i (E i p) := ⟨⟨p, ⟨by omega, c1⟩, rfl⟩, hbr⟩
     refine run_skip <| run_seq <| run_region <| rl_v rfl rfl rfl (ov_move rfl rfl) <| rl_v rfl rfl rfl (ov_move rfl rfl) <| rl_v rfl rfl rfl (ov_index1 rfl Tryz.underlying84 (by kernel_rfl) rfl rfl ⟨by omega, by omega⟩ (by rfl)) ?_
     refine rl_ow rfl (ow_store rfl rfl (by kernel_rfl) hO1 1 rfl rfl ⟨by omega, by omega⟩ rfl rfl) ?_
     rintro _ w4 ⟨rfl, hO5, hs6⟩
     have hOt := hO5.congrI 1 rfl (G' := fun j => .bool (upd s1 (E i p) true j)) (fun x _ _ => by unfold upd; split <;> rfl)
     refine rl_nil <| run_seq <| run_region <| rl_v rfl rfl rfl (ov_move rfl rfl) <| rl_v rfl rfl rfl (ov_nil rfl rfl) <| rl_v rfl rfl rfl (ov_fieldS rfl Tryz.underlying112 rfl (fo := 2) rfl (by kernel_rfl) rfl) ?_
     refine rl_v rfl rfl rfl (ov_load rfl Tryz.underlying30 rfl rfl (by exact hOt.cellL 3 rfl (off := 2) rfl)) ?_
     refine rl_v rfl rfl rfl (ov_move rfl rfl) <| rl_v rfl rfl rfl (ov_index1 rfl Tryz.underlying30 (by kernel_rfl) rfl rfl ⟨by omega, by omega⟩ (by rfl)) ?_
     refine rl_v rfl rfl rfl (ov_load rfl Tryz.underlying3 rfl rfl (by exact hOt.cellI 0 rfl (E i p) hx.1 hx.2)) ?_
     refine rl_v rfl rfl rfl (ov_assign rfl rfl) <| rl_nil <| run_seq <| run_region <| rl_v rfl rfl rfl (ov_move rfl rfl) <| rl_v rfl rfl rfl (ov_lss rfl rfl rfl) <| rl_v rfl rfl rfl (ov_move rfl rfl) ?_
     first | refine rl_split_dec 46 rfl (fun g3 => ?_) (fun g3 => ?_) | refine rl_split 46 rfl (fun g3 => ?_) (fun g3 => ?_)
     ·refine rl_gskip rfl rfl rfl rfl rfl rfl <| rl_gskip rfl rfl rfl rfl rfl rfl <| rl_gskip rfl rfl rfl rfl rfl rfl <| rl_gskip rfl rfl rfl rfl rfl rfl <| rl_gskip rfl rfl rfl rfl rfl rfl <| rl_v rfl rfl rfl (ov_pick_t rfl rfl rfl) <| rl_nil <| run_cond_t rfl <| run_seq <| run_held (fun w' => Own B w0 w' ([mtB mb lb bb wa nb wc n])) mixed ?_
      have hO9 := hOt.drew
      generalize World.drew w4 = w8 at hO9 ⊢
      have hS10 : Own B w0 w8 ([mtB mb lb bb wa nb wc n]) := by exact hO9.sub (.cons _ (.cons _ (.cons _ (.cons_cons _ (List.nil_sublist _)))))
      refine rh_v 0 rfl (by kernel_rfl) rfl rfl rfl hS10 (fun _ hS => ov_move rfl rfl) ?_
      refine rh_v 1 rfl (by kernel_rfl) rfl rfl rfl hS10 (fun _ hS => ov_nil rfl rfl) ?_
      refine rh_v 2 rfl (by kernel_rfl) rfl rfl rfl hS10 (fun _ hS => ov_fieldS rfl Tryz.underlying112 rfl (fo := 1) rfl (by kernel_rfl) rfl) ?_
      refine rh_v 3 rfl (by kernel_rfl) rfl rfl rfl hS10 (fun _ hS => ov_load rfl Tryz.underlying30 rfl rfl (by exact hS.cellL 0 rfl (off := 1) rfl)) ?_
      refine rh_v 4 rfl (by kernel_rfl) rfl rfl rfl hS10 (fun _ hS => ov_move rfl rfl) ?_
      refine rh_v 5 rfl (by kernel_rfl) rfl rfl rfl hS10 (fun _ hS => ov_move rfl rfl) ?_
      refine rh_v 6 rfl (by kernel_rfl) rfl rfl rfl hS10 (fun _ hS => ov_nil rfl rfl) ?_
      refine rh_v 7 rfl (by kernel_rfl) rfl rfl rfl hS10 (fun _ hS => ov_fieldS rfl Tryz.underlying112 rfl (fo := 2) rfl (by kernel_rfl) rfl) ?_
      refine rh_v 8 rfl (by kernel_rfl) rfl rfl rfl hS10 (fun _ hS => ov_load rfl Tryz.underlying30 rfl rfl (by exact hS.cellL 0 rfl (off := 2) rfl)) ?_
      refine rh_v 9 rfl (by kernel_rfl) rfl rfl rfl hS10 (fun _ hS => ov_move rfl rfl) ?_
      refine rh_v 10 rfl (by kernel_rfl) rfl rfl rfl hS10 (fun _ hS => ov_move rfl rfl) ?_
      refine rh_v 11 rfl (by kernel_rfl) rfl rfl rfl hS10 (fun _ hS => ov_move rfl rfl) ?_
      refine rh_v 12 rfl (by kernel_rfl) rfl rfl rfl hS10 (fun _ hS => ov_index1 rfl Tryz.underlying30 (by kernel_rfl) rfl rfl ⟨by omega, by omega⟩ (by rfl)) ?_
      refine rh_any1 13 (by kernel_rfl) ?_
      refine rc_op rfl rfl (ow_store rfl rfl (by kernel_rfl) hO9 2 rfl rfl ⟨by omega, by omega⟩ rfl rfl) ?_
      rintro _ w11 ⟨rfl, hO12, hs13⟩
      have hS14 : Own B w0 w11 ([mtB mb lb bb wa nb wc n]) := by exact hO12.sub (.cons _ (.cons _ (.cons _ (.cons_cons _ (List.nil_sublist _)))))
      refine ⟨hS14, ?_⟩
      refine rh_v 14 rfl (by kernel_rfl) rfl rfl rfl hS14 (fun _ hS => ov_index1 rfl Tryz.underlying30 (by kernel_rfl) rfl rfl ⟨by omega, by omega⟩ (by rfl)) ?_
      refine rh_any1 15 (by kernel_rfl) ?_
      refine rc_op rfl rfl (ow_storeI rfl rfl (by kernel_rfl) hO12 0 rfl rfl ⟨by omega, by omega⟩ rfl) ?_
      rintro _ w15 ⟨rfl, hO16, hs17⟩
      have hS18 : Own B w0 w15 ([mtB mb lb bb wa nb wc n]) := by exact hO16.sub (.cons _ (.cons _ (.cons _ (.cons_cons _ (List.nil_sublist _)))))
      refine ⟨hS18, ?_⟩
      have hOu := hO16.congrI 0 rfl (G' := fun j => iv (upd of (E i p) i j)) (fun x _ _ => by unfold upd; split <;> rfl)
      refine rh_done (by kernel_rfl) ?_
      refine run_seq <| run_region <| rl_v rfl rfl rfl (ov_assign rfl rfl) <| rl_nil <| run_ret Tryz.func53 (res1 Tryz.results53 rfl) ?_
      exact ⟨true, _, _, _, rfl, hOu, fun _ => ⟨KS.free hok hKL hx.1 hx.2 hsk g3 i0 hopp, fun j j0 j1 => by unfold upd; split; exact i1; exact (hofr j j0 j1).2⟩, fun h => Bool.noConfusion h⟩
     ·have hown : 0 ≤ of (E i p) := by omega
      have hm := uns_mark hx.1 hx.2 hsk
      have hle := uns_le hKL.sub
      have hnn := uns_nonneg (upd s1 (E i p) true) n
      have hofk := hofr (E i p) hx.1 hx.2
      refine rl_gv rfl rfl rfl rfl rfl (ov_move rfl rfl) <| rl_gv rfl rfl rfl rfl rfl (ov_move rfl rfl) <| rl_gv rfl rfl rfl rfl rfl (ov_move rfl rfl) <| rl_gv rfl rfl rfl rfl rfl (ov_move rfl rfl) ?_
      refine rl_gcall callable_53 rfl rfl rfl rfl rfl rfl rfl rfl (ih (uns (upd s1 (E i p) true) n).toNat (by omega) (of (E i p)) of (upd s1 (E i p) true) Lo1 _ (by omega) ⟨hown, hofk.2, hofr, hok, hOt⟩) (fun e19 w20 hp21 => ?_)
      obtain ⟨b, of1, s2, Lo2, rfl, hO2, hSb, hFb⟩ := hp21
      refine ⟨_, rfl, ?_⟩
      refine rl_v rfl rfl rfl (ov_pick_f rfl rfl rfl) <| rl_nil ?_
      first | refine run_cond_dec rfl (fun g4 => ?_) (fun g4 => ?_) | refine run_cond rfl (fun g4 => ?_) (fun g4 => ?_)
      ·obtain ⟨hS1, hS2⟩ := hSb g4
       refine run_seq <| run_held (fun w' => Own B w0 w' ([mtB mb lb bb wa nb wc n])) mixed ?_
       have hO23 := hO2.drew
       generalize World.drew w20 = w22 at hO23 ⊢
       have hS24 : Own B w0 w22 ([mtB mb lb bb wa nb wc n]) := by exact hO23.sub (.cons _ (.cons _ (.cons _ (.cons_cons _ (List.nil_sublist _)))))
       refine rh_v 0 rfl (by kernel_rfl) rfl rfl rfl hS24 (fun _ hS => ov_move rfl rfl) ?_
       refine rh_v 1 rfl (by kernel_rfl) rfl rfl rfl hS24 (fun _ hS => ov_nil rfl rfl) ?_
       refine rh_v 2 rfl (by kernel_rfl) rfl rfl rfl hS24 (fun _ hS => ov_fieldS rfl Tryz.underlying112 rfl (fo := 1) rfl (by kernel_rfl) rfl) ?_
       refine rh_v 3 rfl (by kernel_rfl) rfl rfl rfl hS24 (fun _ hS => ov_load rfl Tryz.underlying30 rfl rfl (by exact hS.cellL 0 rfl (off := 1) rfl)) ?_
       refine rh_v 4 rfl (by kernel_rfl) rfl rfl rfl hS24 (fun _ hS => ov_move rfl rfl) ?_
       refine rh_v 5 rfl (by kernel_rfl) rfl rfl rfl hS24 (fun _ hS => ov_move rfl rfl) ?_
       refine rh_v 6 rfl (by kernel_rfl) rfl rfl rfl hS24 (fun _ hS => ov_nil rfl rfl) ?_
       refine rh_v 7 rfl (by kernel_rfl) rfl rfl rfl hS24 (fun _ hS => ov_fieldS rfl Tryz.underlying112 rfl (fo := 2) rfl (by kernel_rfl) rfl) ?_
       refine rh_v 8 rfl (by kernel_rfl) rfl rfl rfl hS24 (fun _ hS => ov_load rfl Tryz.underlying30 rfl rfl (by exact hS.cellL 0 rfl (off := 2) rfl)) ?_
       refine rh_v 9 rfl (by kernel_rfl) rfl rfl rfl hS24 (fun _ hS => ov_move rfl rfl) ?_
       refine rh_v 10 rfl (by kernel_rfl) rfl rfl rfl hS24 (fun _ hS => ov_move rfl rfl) ?_
       refine rh_v 11 rfl (by kernel_rfl) rfl rfl rfl hS24 (fun _ hS => ov_move rfl rfl) ?_
       refine rh_v 12 rfl (by kernel_rfl) rfl rfl rfl hS24 (fun _ hS => ov_index1 rfl Tryz.underlying30 (by kernel_rfl) rfl rfl ⟨by omega, by omega⟩ (by rfl)) ?_
       refine rh_any1 13 (by kernel_rfl) ?_
       refine rc_op rfl rfl (ow_store rfl rfl (by kernel_rfl) hO23 2 rfl rfl ⟨by omega, by omega⟩ rfl rfl) ?_
       rintro _ w25 ⟨rfl, hO26, hs27⟩
       have hS28 : Own B w0 w25 ([mtB mb lb bb wa nb wc n]) := by exact hO26.sub (.cons _ (.cons _ (.cons _ (.cons_cons _ (List.nil_sublist _)))))
       refine ⟨hS28, ?_⟩
       refine rh_v 14 rfl (by kernel_rfl) rfl rfl rfl hS28 (fun _ hS => ov_index1 rfl Tryz.underlying30 (by kernel_rfl) rfl rfl ⟨by omega, by omega⟩ (by rfl)) ?_
       refine rh_any1 15 (by kernel_rfl) ?_
       refine rc_op rfl rfl (ow_storeI rfl rfl (by kernel_rfl) hO26 0 rfl rfl ⟨by omega, by omega⟩ rfl) ?_
       rintro _ w29 ⟨rfl, hO30, hs31⟩
       have hS32 : Own B w0 w29 ([mtB mb lb bb wa nb wc n]) := by exact hO30.sub (.cons _ (.cons _ (.cons _ (.cons_cons _ (List.nil_sublist _)))))
       refine ⟨hS32, ?_⟩
       have hOu := hO30.congrI 0 rfl (G' := fun j => iv (upd of1 (E i p) i j)) (fun x _ _ => by unfold upd; split <;> rfl)
       refine rh_done (by kernel_rfl) ?_
       refine run_seq <| run_region <| rl_v rfl rfl rfl (ov_assign rfl rfl) <| rl_nil <| run_ret Tryz.func53 (res1 Tryz.results53 rfl) ?_
       exact ⟨true, _, _, _, rfl, hOu, fun _ => ⟨KS.push hKL hx.1 hx.2 hsk i0 hopp hS1, fun j j0 j1 => by unfold upd; split; exact i1; exact hS2 j j0 j1⟩, fun h => Bool.noConfusion h⟩
      ·have hbf : b = false := by cases b; rfl; exact Bool.noConfusion g4
       obtain ⟨e1, hF1⟩ := hFb hbf
       have hL2 := hKL.step hx.1 hx.2 hown hF1
       subst e1
       have hall2 : ∀ j : Int, 0 ≤ j → j < ((p + 1 : Nat) : Int) → br (E i j) = false → s2 (E i j) = true := fun j j0 j1 hj => by
        have hjr := hE i j i0 i1 j0 (by omega)
        refine hF1.l.sub _ hjr.1 hjr.2 ?_
        by_cases e : j = p
        ·rw [e, upd_same]
        ·unfold upd; split
         ·rfl
         ·exact hall j j0 (by omega) hj
       refine run_skip <| run_inBlock <| run_region <| rl_v rfl rfl rfl (ov_add rfl rfl rfl (by omega)) ?_
       refine rl_v rfl rfl rfl (ov_move rfl rfl) <| rl_nil ?_
       refine Run.use (ih2 (p + 1) (s2) (Lo2) _ ?_ ?_) (And.intro (by exact slot_int rfl (by first | omega)) (And.intro rfl (And.intro rfl (And.intro rfl (And.intro rfl (And.intro rfl (And.intro rfl trivial)))))))
       ·first | omega | (dsimp only; omega)
       ·exact ⟨by omega, hL2, hall2, hO2⟩
  ·refine run_exit rfl <| run_seq <| run_region <| rl_v rfl rfl rfl (ov_assign rfl rfl) <| rl_nil <| run_ret Tryz.func53 (res1 Tryz.results53 rfl) ?_
   exact ⟨false, of, s1, Lo1, rfl, hO1, fun h => Bool.noConfusion h, fun _ => ⟨rfl, hKL, fun k k0 k1 hk => by obtain ⟨⟨j, ⟨j0, j1⟩, e⟩, hb⟩ := hk; rw [← e] at hb ⊢; exact hall j j0 (by omega) hb⟩⟩
end Go.Proofs.YtbcjfjldmfljgaaGreat
