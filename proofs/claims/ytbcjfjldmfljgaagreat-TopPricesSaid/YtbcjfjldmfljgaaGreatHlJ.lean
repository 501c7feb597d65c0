import Derived.Test.YtbcjfjldmfljgaaGreatHlI
import Derived.Test.YtbcjfjldmfljgaaGreatFdA
import Derived.Test.YtbcjfjldmfljgaaGreatBitA
set_option maxRecDepth 100000
namespace Go.Proofs.YtbcjfjldmfljgaaGreat
open Go.RowKit Go.Proofs Go.MapKept Hal
theorem own_none3 {B : Nat} {w0 w : World} (n : Nat) {a b c : Option Blk} (h : Own B w0 w [a, b, c]) : Own B w0 w ([a, b, c] ++ ((List.range n).map (fun _ => none) ++ [])) := by
 have e : (List.range n).map (fun _ => (none : Option Blk)) = List.replicate n none := by rw [List.map_const', List.length_range]
 rw [e, List.append_nil]
 exact (h.nones n).perm List.perm_append_comm
theorem own_none1H {B : Nat} {w0 w : World} (n : Nat) {a : Option Blk} (h : Own B w0 w [a]) : Own B w0 w ((a :: (List.range n).map (fun _ => none)) ++ []) := by
 have e : (List.range n).map (fun _ => (none : Option Blk)) = List.replicate n none := by rw [List.map_const', List.length_range]
 rw [e, List.append_nil]
 exact (h.nones n).perm List.perm_append_comm
set_option maxHeartbeats 16000000 in
theorem balH_any (wa pa : Option Addr) (wc pc : Nat) (h : Hal) (p : Int → Int) (aa : Option Addr) (k ac : Nat) (a : Int → Int) (w : World) (hM : HalM w.heap.size w wa pa h p) (hk : k ≤ h.nb) (hP : h.Part p k a) (hA : IAt w.heap.size w aa k (fun i => iv (a i))) :
  Calls Tryz.prog 27 #[.slice wa h.nb wc, .slice pa h.nl pc, .slice aa k ac] w fun e w' => ∃ b : Bool, e = .returned (.bool b) ∧ (b = true ↔ h.Can p k a) ∧ Own w.heap.size w w' [] := by
 have hnb := hM.nb
 have hnl := hM.nl
 obtain ⟨A, C, RB, RO, gb, go, hga, hrow, hra, hel, hat⟩ := hM.t.open
 obtain ⟨pb, po, hpa, hpr⟩ := hM.q.open
 obtain ⟨ab, ao, haa, har⟩ := hA.open
 refine calls_of_run (F := [(0, _), (1, _), (2, _)]) Tryz.func27 rfl Tryz.ntmps27 rfl rfl ?_
 have hO0 := Own.init w
 refine run_seq <| run_region <| rl_v rfl rfl rfl (ov_assign rfl rfl) <| rl_nil <| run_seq <| run_region <| rl_v rfl rfl rfl (ov_move rfl rfl) <| rl_v rfl rfl rfl (ov_len rfl Tryz.underlying22 rfl) <| rl_v rfl rfl rfl (ov_assign rfl rfl) <| rl_nil <| run_seq <| run_region <| rl_v rfl rfl rfl (ov_move rfl rfl) ?_
 refine rl_make (h.nl) rfl rfl rfl rfl Tryz.underlying84 info_4 rfl hO0 rfl rfl (by rfl) (by rfl) ⟨by omega, by omega⟩ (fun tb w1 hO2 hs3 => ?_)
 refine rl_v rfl rfl rfl (ov_assign rfl rfl) <| rl_nil <| run_seq <| run_seq <| run_region <| rl_v rfl rfl rfl (ov_move rfl rfl) <| rl_v rfl rfl rfl (ov_len rfl Tryz.underlying30 rfl) <| rl_v rfl rfl rfl (ov_move rfl rfl) <| rl_nil <| run_block <| Run.keep [0, 1, 2, 7, 8, 27, 28, 29] (F' := [(0, _), (1, _), (2, _), (7, _), (8, _), (27, _), (28, _), (29, _)]) rfl <| run_loop1 (fun (i : Nat) => [(29, .int .i64 (i : Int))]) [0, 1, 2, 7, 8, 27, 28] (fun (i : Nat) (w4 : World) => i ≤ k ∧ ∃ tk : Int → Bool, (∀ j : Int, 0 ≤ j → j < h.nl → (tk j = true ↔ Tkn i a j)) ∧ Own w.heap.size w w4 [some (vch tb 4 h.nl (fun j => .bool (tk j)))]) (fun (i : Nat) => k - i) (0) ?_ (And.intro (by exact slot_int rfl (by first | omega)) (And.intro rfl (And.intro rfl (And.intro rfl (And.intro rfl (And.intro rfl (And.intro rfl (And.intro rfl trivial)))))))) ?_
 ·exact ⟨Nat.zero_le _, fun _ => false, fun j _ _ => ⟨fun q => Bool.noConfusion q, fun ⟨x, hx, _⟩ => by omega⟩, hO2⟩
 intro i w4 hIw4 ih5
 obtain ⟨hi, tk, htk, hO1⟩ := hIw4
 show Run _ _ _ _ [(29, _), (0, _), (1, _), (2, _), (7, _), (8, _), (27, _), (28, _)] _ _
 refine run_seq <| run_region <| rl_v rfl rfl rfl (ov_lss rfl rfl rfl) <| rl_nil <| run_seq ?_
 first | refine run_cond_dec rfl (fun c1 => ?_) (fun c1 => ?_) | refine run_cond rfl (fun c1 => ?_) (fun c1 => ?_)
 ·have hri := hP.rng i (by omega) c1
  refine run_skip <| run_seq <| run_block <| run_seq <| run_region <| rl_v rfl rfl rfl (ov_index1 rfl Tryz.underlying30 (by kernel_rfl) rfl rfl ⟨by omega, by omega⟩ (by exact haa (by omega))) ?_
  refine rl_v rfl rfl rfl (ov_load rfl Tryz.underlying3 rfl rfl (by exact har _ hO1.below i (by omega) c1)) ?_
  refine rl_v rfl rfl rfl (ov_assign rfl rfl) <| rl_nil <| run_seq <| run_region <| rl_v rfl rfl rfl (ov_move rfl rfl) <| rl_v rfl rfl rfl (ov_geq rfl rfl rfl) <| rl_nil ?_
  first | refine run_cond_dec rfl (fun c2 => ?_) (fun c2 => ?_) | refine run_cond rfl (fun c2 => ?_) (fun c2 => ?_)
  ·refine run_region <| rl_v rfl rfl rfl (ov_move rfl rfl) <| rl_v rfl rfl rfl (ov_move rfl rfl) <| rl_v rfl rfl rfl (ov_index1 rfl Tryz.underlying84 (by kernel_rfl) rfl rfl ⟨by omega, by omega⟩ (by rfl)) ?_
   refine rl_ow rfl (ow_store rfl rfl (by kernel_rfl) hO1 0 rfl rfl ⟨by omega, by omega⟩ rfl rfl) ?_
   rintro _ w6 ⟨rfl, hO7, hs8⟩
   have hOt := hO7.congrI 0 rfl (G' := fun j => .bool (upd tk (a i) true j)) (fun x _ _ => by unfold upd; split <;> rfl)
   have htk2 : ∀ j : Int, 0 ≤ j → j < h.nl → (upd tk (a i) true j = true ↔ Tkn ((i + 1 : Nat) : Int) a j) := fun j j0 j1 => by
    by_cases e : j = a i
    ·rw [e, upd_same]; exact ⟨fun _ => ⟨i, by omega, rfl⟩, fun _ => rfl⟩
    ·rw [upd_ne _ _ e, htk j j0 j1]
     exact ⟨fun ⟨x, hx, q⟩ => ⟨x, by omega, q⟩, fun ⟨x, hx, q⟩ => ⟨x, ⟨hx.1, Classical.byContradiction fun hn => by { have d : x = i := (by omega); rw [d] at q; exact e q.symm }⟩, q⟩⟩
   refine rl_nil <| run_inBlock <| run_region <| rl_v rfl rfl rfl (ov_add rfl rfl rfl (by omega)) ?_
   refine rl_v rfl rfl rfl (ov_move rfl rfl) <| rl_nil ?_
   refine Run.use (ih5 (i + 1) _ ?_ ?_) (And.intro (by exact slot_int rfl (by first | omega)) (And.intro rfl (And.intro rfl (And.intro rfl (And.intro rfl (And.intro rfl (And.intro rfl (And.intro rfl trivial))))))))
   ·first | omega | (dsimp only; omega)
   ·exact ⟨by omega, _, htk2, hOt⟩
  ·have htk2 : ∀ j : Int, 0 ≤ j → j < h.nl → (tk j = true ↔ Tkn ((i + 1 : Nat) : Int) a j) := fun j j0 j1 => by
    rw [htk j j0 j1]
    exact ⟨fun ⟨x, hx, q⟩ => ⟨x, by omega, q⟩, fun ⟨x, hx, q⟩ => ⟨x, ⟨hx.1, Classical.byContradiction fun hn => by { have d : x = i := (by omega); rw [d] at q; omega }⟩, q⟩⟩
   refine run_skip <| run_inBlock <| run_region <| rl_v rfl rfl rfl (ov_add rfl rfl rfl (by omega)) ?_
   refine rl_v rfl rfl rfl (ov_move rfl rfl) <| rl_nil ?_
   refine Run.use (ih5 (i + 1) _ ?_ ?_) (And.intro (by exact slot_int rfl (by first | omega)) (And.intro rfl (And.intro rfl (And.intro rfl (And.intro rfl (And.intro rfl (And.intro rfl (And.intro rfl trivial))))))))
   ·first | omega | (dsimp only; omega)
   ·exact ⟨by omega, tk, htk2, hO1⟩
 ·have hik : i = k := by omega
  rw [hik] at htk
  refine run_exit rfl <| run_seq <| run_region <| rl_v rfl rfl rfl (ov_move rfl rfl) <| rl_v rfl rfl rfl (ov_len rfl Tryz.underlying25 rfl) ?_
  refine rl_make (h.nb) rfl rfl rfl rfl Tryz.underlying85 info_30 rfl hO1 rfl rfl (by rfl) (by rfl) ⟨by omega, by omega⟩ (fun rb w9 hO10 hs11 => ?_)
  refine rl_v rfl rfl rfl (ov_assign rfl rfl) <| rl_nil <| run_seq <| run_region <| rl_v rfl rfl rfl (ov_move rfl rfl) <| rl_v rfl rfl rfl (ov_len rfl Tryz.underlying25 rfl) ?_
  refine rl_make (h.nb) rfl rfl rfl rfl Tryz.underlying85 info_30 rfl hO10 rfl rfl (by rfl) (by rfl) ⟨by omega, by omega⟩ (fun mb0 w12 hO13 hs14 => ?_)
  have hO0 := own_none3 h.nb hO13
  refine rl_v rfl rfl rfl (ov_assign rfl rfl) <| rl_nil <| run_seq <| run_seq <| run_region <| rl_v rfl rfl rfl (ov_move rfl rfl) <| rl_v rfl rfl rfl (ov_len rfl Tryz.underlying30 rfl) <| rl_v rfl rfl rfl (ov_assign rfl rfl) <| rl_nil <| run_block <| Run.keep [0, 1, 7, 8, 11, 12, 13] (F' := [(0, _), (1, _), (7, _), (8, _), (11, _), (12, _), (13, _)]) rfl <| run_loop1 (fun (i : Nat) => [(13, .int .i64 (i : Int))]) [0, 1, 7, 8, 11, 12] (fun (i : Nat) (w15 : World) => k ≤ i ∧ i ≤ h.nb ∧ ∃ (rR rM : Int → Value) (L : Int → Nat) (E : Int → Int → Int) (ch : Nat → Option Blk), (∀ r : Nat, r < h.nb → IRow (rR r) 3 (L r) (fun q => iv (E r q)) (ch r)) ∧ (∀ r : Int, (k : Int) ≤ r → r < i → Pick (h.wn p r) h.nl (L r) (E r)) ∧ (∀ r : Int, (k : Int) ≤ r → r < i → (0 < h.gn p r → rM r = rR r) ∧ (¬ 0 < h.gn p r → rM r = .slice none 0 0)) ∧ (∀ r : Int, 0 ≤ r → r < h.nb → (r < k ∨ (i : Int) ≤ r) → rR r = .slice none 0 0 ∧ rM r = .slice none 0 0 ∧ L r = 0) ∧ Own w.heap.size w w15 ([some (vch mb0 30 h.nb rM), some (vch rb 30 h.nb rR), some (vch tb 4 h.nl (fun j => .bool (tk j)))] ++ ((List.range h.nb).map ch ++ []))) (fun (i : Nat) => h.nb - i) (k) ?_ (And.intro (by exact slot_int rfl (by first | omega)) (And.intro rfl (And.intro rfl (And.intro rfl (And.intro rfl (And.intro rfl (And.intro rfl trivial))))))) ?_
  ·exact ⟨Nat.le_refl _, hk, _, _, fun _ => 0, fun _ _ => 0, fun _ => none, fun r _ => IRow.nil _ _, fun r a b => by omega, fun r a b => by omega, fun _ _ _ _ => ⟨rfl, rfl, rfl⟩, hO0⟩
  intro i w15 hIw15 ih16
  obtain ⟨hki, hi, rR, rM, L, E, ch, hR, hP2, hM2, hz, hO2⟩ := hIw15
  show Run _ _ _ _ [(13, _), (0, _), (1, _), (7, _), (8, _), (11, _), (12, _)] _ _
  refine run_seq <| run_seq <| run_region <| rl_v rfl rfl rfl (ov_move rfl rfl) <| rl_v rfl rfl rfl (ov_move rfl rfl) <| rl_v rfl rfl rfl (ov_len rfl Tryz.underlying25 rfl) <| rl_v rfl rfl rfl (ov_lss rfl rfl rfl) <| rl_nil ?_
  first | refine run_cond_dec rfl (fun c3 => ?_) (fun c3 => ?_) | refine run_cond rfl (fun c3 => ?_) (fun c3 => ?_)
  ·refine run_skip <| run_seq <| run_block <| run_seq <| run_region <| rl_v rfl rfl rfl (ov_move rfl rfl) <| rl_v rfl rfl rfl (ov_move rfl rfl) <| rl_v rfl rfl rfl (ov_move rfl rfl) <| rl_v rfl rfl rfl (ov_move rfl rfl) <| rl_v rfl rfl rfl (ov_index1 rfl Tryz.underlying25 (by kernel_rfl) rfl rfl ⟨by omega, by omega⟩ (by exact hga (by omega))) ?_
   refine rl_v rfl rfl rfl (ov_load rfl Tryz.underlying22 rfl rfl (by exact hrow _ hO2.below i (by omega) c3)) ?_
   refine rl_v rfl rfl rfl (ov_move rfl rfl) ?_
   refine rl_call callable_24 rfl rfl rfl rfl rfl rfl (wantsH_any (A i) pa h.nl (C i) pc (h.V i) p _ hnl (fun j j0 j1 => hM.v i j (by omega) c3 j0 j1) hM.pr (hO2.iatU (hat i (by omega) c3)) (hO2.iatU hM.q)) (fun e17 w18 hp19 => ?_)
   obtain ⟨v, c, K, cb, rfl, hK, hv, _, hOb⟩ := hp19
   refine ⟨_, rfl, ?_⟩
   have hO20 := hO2.join hOb
   obtain ⟨va, vc, rfl⟩ := Row.val hv
   refine rl_v rfl rfl rfl (ov_index1 rfl Tryz.underlying85 (by kernel_rfl) rfl rfl ⟨by omega, by omega⟩ (by rfl)) ?_
   refine rl_ow rfl (ow_store rfl rfl (by kernel_rfl) hO20 2 rfl rfl ⟨by omega, by omega⟩ rfl rfl) ?_
   rintro _ w21 ⟨rfl, hO22, hs23⟩
   have hi2 : i < h.nb := by omega
   have hR2 : ∀ r : Nat, r < h.nb → IRow (upd rR i (.slice va c vc) r) 3 (upd L i c r) (fun q => iv (upd E i K r q)) (if r = i then cb else ch r) := fun r hr => by
    by_cases e : r = i
    ·rw [if_pos e, e, upd_same, upd_same, upd_same]; exact hv
    ·have e' : (r : Int) ≠ i := by omega
     rw [if_neg e, upd_ne _ _ e', upd_ne _ _ e', show upd E i K (r : Int) = E r from upd_ne _ _ e']; exact hR r hr
   have hy2 : ∀ r : Int, (k : Int) ≤ r → r < ((i + 1 : Nat) : Int) → Pick (h.wn p r) h.nl (upd L i c r) (upd E i K r) := fun r r0 r1 => by
    by_cases e : r = i
    ·rw [e, upd_same, upd_same]; exact hK
    ·rw [upd_ne _ _ e, upd_ne _ _ e]; exact hP2 r r0 (by omega)
   refine rl_nil <| run_seq <| run_region <| rl_v rfl rfl rfl (ov_move rfl rfl) <| rl_v rfl rfl rfl (ov_move rfl rfl) <| rl_v rfl rfl rfl (ov_index1 rfl Tryz.underlying25 (by kernel_rfl) rfl rfl ⟨by omega, by omega⟩ (by exact hga (by omega))) ?_
   refine rl_v rfl rfl rfl (ov_load rfl Tryz.underlying22 rfl rfl (by exact hrow _ hO22.below i (by omega) c3)) ?_
   refine rl_v rfl rfl rfl (ov_move rfl rfl) ?_
   refine rl_call callable_25 rfl rfl rfl rfl rfl rfl (gainH_any (A i) pa h.nl (C i) pc (h.V i) p _ hnl (fun j j0 j1 => hM.v i j (by omega) c3 j0 j1) hM.pr (hO22.iatU (hat i (by omega) c3)) (hO22.iatU hM.q)) (fun e24 w25 hp26 => ?_)
   obtain ⟨rfl, hOa⟩ := hp26
   refine ⟨_, rfl, ?_⟩
   have hO27 := hO22.join hOa
   refine rl_v rfl rfl rfl (ov_gtr rfl rfl rfl) <| rl_nil ?_
   first | refine run_cond_dec rfl (fun c4 => ?_) (fun c4 => ?_) | refine run_cond rfl (fun c4 => ?_) (fun c4 => ?_)
   ·have hgp : 0 < h.gn p i := c4
    refine run_region <| rl_v rfl rfl rfl (ov_move rfl rfl) <| rl_v rfl rfl rfl (ov_move rfl rfl) <| rl_v rfl rfl rfl (ov_move rfl rfl) <| rl_v rfl rfl rfl (ov_move rfl rfl) <| rl_v rfl rfl rfl (ov_index1 rfl Tryz.underlying85 (by kernel_rfl) rfl rfl ⟨by omega, by omega⟩ (by rfl)) ?_
    refine rl_v rfl rfl rfl (ov_load rfl Tryz.underlying30 rfl rfl (by exact (hO27.cellI 2 rfl (i : Int) (by omega) (by omega)).trans (congrArg some (upd_same ..)))) ?_
    refine rl_v rfl rfl rfl (ov_index1 rfl Tryz.underlying85 (by kernel_rfl) rfl rfl ⟨by omega, by omega⟩ (by rfl)) ?_
    refine rl_ow rfl (ow_store rfl rfl (by kernel_rfl) hO27 1 rfl rfl ⟨by omega, by omega⟩ rfl rfl) ?_
    rintro _ w28 ⟨rfl, hO29, hs30⟩
    have hOp := own_put [_, _, _] i hi2 (own_take [_, _, _, _] i hi2 hO29).tail
    have hM3 : ∀ r : Int, (k : Int) ≤ r → r < ((i + 1 : Nat) : Int) → (0 < h.gn p r → upd rM i (.slice va c vc) r = upd rR i (.slice va c vc) r) ∧ (¬ 0 < h.gn p r → upd rM i (.slice va c vc) r = .slice none 0 0) := fun r r0 r1 => by
     by_cases e : r = i
     ·rw [e, upd_same, upd_same]; exact ⟨fun _ => rfl, fun q => absurd hgp q⟩
     ·rw [upd_ne _ _ e, upd_ne _ _ e]; exact hM2 r r0 (by omega)
    refine rl_nil <| run_inBlock <| run_region <| rl_v rfl rfl rfl (ov_move rfl rfl) <| rl_v rfl rfl rfl (ov_add rfl rfl rfl (by omega)) ?_
    refine rl_v rfl rfl rfl (ov_assign rfl rfl) <| rl_nil ?_
    refine Run.use (ih16 (i + 1) _ ?_ ?_) (And.intro (by exact slot_int rfl (by first | omega)) (And.intro rfl (And.intro rfl (And.intro rfl (And.intro rfl (And.intro rfl (And.intro rfl trivial)))))))
    ·first | omega | (dsimp only; omega)
    ·exact ⟨by omega, by omega, _, _, _, _, _, hR2, hy2, hM3, fun r r0 r1 hr => by rw [upd_ne _ _ (by omega), upd_ne _ _ (by omega), upd_ne _ _ (by omega)]; exact hz r r0 r1 (by omega), hOp⟩
   ·have hgp : ¬ 0 < h.gn p i := c4
    have hOp := own_put [_, _, _] i hi2 (own_take [_, _, _, _] i hi2 hO27).tail
    have hM3 : ∀ r : Int, (k : Int) ≤ r → r < ((i + 1 : Nat) : Int) → (0 < h.gn p r → rM r = upd rR i (.slice va c vc) r) ∧ (¬ 0 < h.gn p r → rM r = .slice none 0 0) := fun r r0 r1 => by
     by_cases e : r = i
     ·rw [e, upd_same]; exact ⟨fun q => absurd q hgp, fun _ => (hz i (by omega) c3 (.inr (Int.le_refl _))).2.1⟩
     ·rw [upd_ne _ _ e]; exact hM2 r r0 (by omega)
    refine run_skip <| run_inBlock <| run_region <| rl_v rfl rfl rfl (ov_move rfl rfl) <| rl_v rfl rfl rfl (ov_add rfl rfl rfl (by omega)) ?_
    refine rl_v rfl rfl rfl (ov_assign rfl rfl) <| rl_nil ?_
    refine Run.use (ih16 (i + 1) _ ?_ ?_) (And.intro (by exact slot_int rfl (by first | omega)) (And.intro rfl (And.intro rfl (And.intro rfl (And.intro rfl (And.intro rfl (And.intro rfl trivial)))))))
    ·first | omega | (dsimp only; omega)
    ·exact ⟨by omega, by omega, _, rM, _, _, _, hR2, hy2, hM3, fun r r0 r1 hr => by rw [upd_ne _ _ (by omega), upd_ne _ _ (by omega)]; exact hz r r0 r1 (by omega), hOp⟩
  ·have hib : i = h.nb := by omega
   rw [hib] at hP2 hM2 hz
   have hOA := hO2
   have hrw : ∀ r : Int, 0 ≤ r → r < h.nb → ∃ (b : Option Addr) (c : Nat), rR r = .slice b (L r) c ∧ IAt w15.heap.size w15 b (L r) (fun q => iv (E r q)) := fun r r0 r1 => by
    obtain ⟨r', rfl⟩ := Int.eq_ofNat_of_zero_le r0
    exact row_at [_, _, _] hOA (by omega) (hR r' (by omega))
   obtain ⟨LM, hLM⟩ : ∃ LM : Int → Nat, ∀ r, LM r = if (k : Int) ≤ r ∧ 0 < h.gn p r then L r else 0 := ⟨_, fun _ => rfl⟩
   have hvM : IAt w15.heap.size w15 (some ⟨mb0, 0, none⟩) h.nb rM := hOA.readsH (.head _)
   have hvR : IAt w15.heap.size w15 (some ⟨rb, 0, none⟩) h.nb rR := hOA.readsH (.tail _ (.head _))
   have hvT : IAt w15.heap.size w15 (some ⟨tb, 0, none⟩) h.nl (fun j => .bool (tk j)) := hOA.readsH (.tail _ (.tail _ (.head _)))
   have hrM : ∀ r : Int, 0 ≤ r → r < h.nb → ∃ (b : Option Addr) (c : Nat), rM r = .slice b (LM r) c ∧ IAt w15.heap.size w15 b (LM r) (fun q => iv (E r q)) ∧ (b.isNone = true ↔ ¬ ((k : Int) ≤ r ∧ 0 < h.gn p r)) := fun r r0 r1 => by
    by_cases c : (k : Int) ≤ r ∧ 0 < h.gn p r
    ·obtain ⟨b, q, e1, e2⟩ := hrw r r0 r1
     have e3 := (hM2 r c.1 r1).1 c.2
     rw [hLM r, if_pos c]
     refine ⟨b, q, e3.trans e1, e2, fun hb => ?_, fun hn => absurd c hn⟩
     have hPk := hP2 r c.1 r1
     obtain ⟨j, hj, hw⟩ := (h.gn_at p r).resolve_left (by have := c.2; omega)
     obtain ⟨x, hx, _⟩ := (hPk.mem j).2 ⟨hj, hw⟩
     obtain ⟨g1, g2, g3, _⟩ := e2.open
     rw [g3 (by omega)] at hb
     exact Bool.noConfusion hb
    ·rw [hLM r, if_neg c]
     refine ⟨none, 0, ?_, IAt.nil _ _ _ _, fun _ => c, fun _ => rfl⟩
     by_cases d : (k : Int) ≤ r
     ·exact (hM2 r d r1).2 fun q => c ⟨d, q⟩
     ·exact (hz r r0 r1 (.inl (by omega))).2.1
   have hIM : ITab w15.heap.size w15 (some ⟨mb0, 0, none⟩) h.nb LM (fun r q => iv (E r q)) := itab_mk hvM fun r r0 r1 => by
    obtain ⟨b, c, e1, e2, _⟩ := hrM r r0 r1
    exact ⟨b, c, e1, e2⟩
   have hLE : ∀ r : Int, 0 ≤ r → r < h.nb → L r ≤ 64 ∧ ∀ q : Int, 0 ≤ q → q < L r → 0 ≤ E r q ∧ E r q < h.nl := fun r r0 r1 => by
    by_cases c : (k : Int) ≤ r
    ·have hPk := hP2 r c r1
     exact ⟨by have := hPk.le; omega, fun q q0 q1 => ((hPk.mem (E r q)).1 ⟨q, ⟨q0, q1⟩, rfl⟩).1⟩
    ·have := (hz r r0 r1 (.inl (by omega))).2.2
     exact ⟨by omega, fun q q0 q1 => by omega⟩
   have hop1 : ∀ x j : Int, (k : Int) ≤ x → x < h.nb → 0 < h.gn p x → 0 ≤ j → j < h.nl → (h.opR p k a x j ↔ opG LM E tk x j) := fun x j x0 x1 hg j0 j1 => by
    have hPk := hP2 x x0 x1
    have ht := htk j j0 j1
    unfold opG
    rw [hLM x, if_pos ⟨x0, hg⟩]
    constructor
    ·rintro ⟨_, q2, q3⟩
     refine ⟨(hPk.mem j).2 ⟨⟨j0, j1⟩, q2⟩, ?_⟩
     cases hb : tk j with
     | false => rfl
     | true => exact absurd (ht.1 hb) q3
    ·rintro ⟨q1, q2⟩
     exact ⟨⟨x0, x1⟩, ((hPk.mem j).1 q1).2, fun q => by have := ht.2 q; rw [this] at q2; exact Bool.noConfusion q2⟩
   obtain ⟨vb, vo, hva, hvr⟩ := hvM.open
   obtain ⟨tb', to', hta, htr⟩ := hvT.open
   obtain ⟨ub, uo, hua, hur⟩ := hvR.open
   have hcellT : ∀ w', Below w15.heap.size w15 w' → ∀ j : Int, 0 ≤ j → j < h.nl → w'.cell? ⟨tb, 0 + j.toNat, none⟩ = some (.bool (tk j)) := fun w' hb j j0 j1 => by
    have e := hta (by omega)
    injection e with e
    injection e with e1 e2 _
    rw [e1, e2]
    exact htr w' hb j j0 j1
   have hcellM : ∀ w', Below w15.heap.size w15 w' → ∀ r : Int, 0 ≤ r → r < h.nb → w'.cell? ⟨mb0, 0 + r.toNat, none⟩ = some (rM r) := fun w' hb r r0 r1 => by
    have e := hva (by omega)
    injection e with e
    injection e with e1 e2 _
    rw [e1, e2]
    exact hvr w' hb r r0 r1
   have hcellR : ∀ w', Below w15.heap.size w15 w' → ∀ r : Int, 0 ≤ r → r < h.nb → w'.cell? ⟨rb, 0 + r.toNat, none⟩ = some (rR r) := fun w' hb r r0 r1 => by
    have e := hua (by omega)
    injection e with e
    injection e with e1 e2 _
    rw [e1, e2]
    exact hur w' hb r r0 r1
   have hI0 := Own.init w15
   refine run_exit rfl <| run_seq <| run_region <| rl_v rfl rfl rfl (ov_move rfl rfl) <| rl_v rfl rfl rfl (ov_move rfl rfl) ?_
   refine rl_call callable_52 rfl rfl rfl rfl rfl rfl (newMat_any (some ⟨mb0, 0, none⟩) h.nb h.nb h.nl _ (by omega) (by omega)) (fun e31 w32 hp33 => ?_)
   obtain ⟨mb, lb, bb, rfl, hOb⟩ := hp33
   refine ⟨_, rfl, ?_⟩
   have hO34 := hI0.join hOb
   have hK0 : KD h.nl (opG LM E tk) (PM h p k 0) (fun _ => -1) := (KD.init h.nl _ (fun _ => -1) fun k k0 k1 => by show (-1 : Int) < 0; decide).congrP fun x _ => ⟨False.elim, fun q => by have := q.1; omega⟩
   refine rl_v rfl rfl rfl (ov_assign rfl rfl) <| rl_nil <| run_seq <| run_seq <| run_region <| rl_v rfl rfl rfl (ov_move rfl rfl) <| rl_v rfl rfl rfl (ov_len rfl Tryz.underlying85 rfl) <| rl_v rfl rfl rfl (ov_move rfl rfl) <| rl_nil <| run_block <| Run.keep [0, 1, 7, 8, 11, 12, 14, 80, 81] (F' := [(0, _), (1, _), (7, _), (8, _), (11, _), (12, _), (14, _), (80, _), (81, _)]) rfl <| run_loop1 (fun (i : Nat) => [(81, .int .i64 (i : Int))]) [0, 1, 7, 8, 11, 12, 14, 80] (fun (i : Nat) (w35 : World) => i ≤ h.nb ∧ ∃ (of : Int → Int) (Lo : Int → Value), KD h.nl (opG LM E tk) (PM h p k i) of ∧ (∀ q : Int, 0 ≤ q → q < h.nl → -1 ≤ of q ∧ of q < h.nb) ∧ Own w15.heap.size w15 w35 [some (vch bb 3 h.nl (fun j => iv (of j))), some (vch lb 3 h.nb Lo), mtB mb lb bb (some ⟨mb0, 0, none⟩) h.nb h.nb h.nl]) (fun (i : Nat) => h.nb - i) (0) ?_ (And.intro (by exact slot_int rfl (by first | omega)) (And.intro rfl (And.intro rfl (And.intro rfl (And.intro rfl (And.intro rfl (And.intro rfl (And.intro rfl (And.intro rfl trivial))))))))) ?_
   ·exact ⟨Nat.zero_le _, fun _ => -1, fun _ => iv (-1), hK0, fun q q0 q1 => by show (-1 : Int) ≤ -1 ∧ (-1 : Int) < h.nb; omega, hO34⟩
   intro i w35 hIw35 ih36
   obtain ⟨hi, of, Lo, hK, hofr, hO3⟩ := hIw35
   show Run _ _ _ _ [(81, _), (0, _), (1, _), (7, _), (8, _), (11, _), (12, _), (14, _), (80, _)] _ _
   refine run_seq <| run_region <| rl_v rfl rfl rfl (ov_lss rfl rfl rfl) <| rl_nil <| run_seq ?_
   first | refine run_cond_dec rfl (fun c5 => ?_) (fun c5 => ?_) | refine run_cond rfl (fun c5 => ?_) (fun c5 => ?_)
   ·obtain ⟨mr, mc, erM, hmI, hmn⟩ := hrM i (by omega) c5
    refine run_skip <| run_seq <| run_block <| run_seq <| run_region <| rl_v rfl rfl rfl (ov_move rfl rfl) <| rl_v rfl rfl rfl (ov_assign rfl rfl) <| rl_nil <| run_seq <| run_region <| rl_v rfl rfl rfl (ov_move rfl rfl) <| rl_v rfl rfl rfl (ov_move rfl rfl) <| rl_v rfl rfl rfl (ov_index1 rfl Tryz.underlying85 (by kernel_rfl) rfl rfl ⟨by omega, by omega⟩ rfl) ?_
    refine rl_v rfl rfl rfl (ov_load rfl Tryz.underlying30 rfl rfl (by exact (hcellM _ hO3.below i (by omega) c5).trans (congrArg some erM))) ?_
    refine rl_v rfl rfl rfl (ov_nonil rfl Tryz.underlying30 rfl) <| rl_v rfl rfl rfl (ov_move rfl rfl) ?_
    first | refine rl_split_dec 89 rfl (fun g1 => ?_) (fun g1 => ?_) | refine rl_split 89 rfl (fun g1 => ?_) (fun g1 => ?_)
    ·refine rl_gv rfl rfl rfl rfl rfl (ov_move rfl rfl) <| rl_gv rfl rfl rfl rfl rfl (ov_move rfl rfl) <| rl_gv rfl rfl rfl rfl rfl (ov_move rfl rfl) <| rl_gv rfl rfl rfl rfl rfl (ov_move rfl rfl) ?_
     have hel2 : (k : Int) ≤ i ∧ 0 < h.gn p i := Classical.byContradiction fun hn => by
      rw [hmn.2 hn] at g1
      exact Bool.noConfusion g1
     refine rl_gow rfl rfl rfl (ow_make (h.nl) rfl rfl rfl Tryz.underlying84 info_4 rfl hO3 rfl rfl (by rfl) (by rfl) ⟨by omega, by omega⟩) ?_
     rintro _ w38 ⟨sb, rfl, hO39, hs40⟩
     have hOp := hO39.perm (List.Perm.swap _ _ _)
     have huns := uns_nonneg (fun _ => false) h.nl
     refine rl_gcall callable_53 rfl rfl rfl rfl rfl rfl rfl rfl (giveH_any (nb := h.nb) (n := h.nl) (by omega) (by omega) hIM (fun r r0 r1 => by rw [hLM]; have := (hLE r r0 r1).1; split <;> omega) (fun r q r0 r1 q0 q1 => by rw [hLM] at q1; split at q1; exact (hLE r r0 r1).2 q q0 q1; omega) bb sb lb mb tb h.nb tk [] (fun w' Lo of s hO j j0 j1 => hcellT w' hO.below j j0 j1) (uns (fun _ => false) h.nl).toNat i of (fun _ => false) Lo _ (by omega) ⟨by omega, c5, hofr, hK.ok, hOp⟩) (fun e41 w42 hp43 => ?_)
     obtain ⟨b, of1, s1, Lo1, rfl, hO4, hSb, hFb⟩ := hp43
     refine ⟨_, rfl, ?_⟩
     refine rl_gv rfl rfl rfl rfl rfl (ov_not rfl rfl) <| rl_v rfl rfl rfl (ov_pick_t rfl rfl rfl) <| rl_nil ?_
     first | refine run_cond_dec rfl (fun c6 => ?_) (fun c6 => ?_) | refine run_cond rfl (fun c6 => ?_) (fun c6 => ?_)
     ·have hbf : b = false := by simpa using c6
      obtain ⟨e1, hF1⟩ := hFb hbf
      have hno := bal_no1 (h := h) (p := p) (k := k) (a := a) (by omega) (by omega) (fun x j x0 x1 hg j0 j1 q => (hop1 x j x0 x1 hg j0 j1).1 q) hK hel2.1 c5 hel2.2 hF1
      refine run_seq <| run_region <| rl_v rfl rfl rfl (ov_assign rfl rfl) <| rl_nil <| run_ret Tryz.func27 (res1 Tryz.results27 rfl) ?_
      exact ⟨false, rfl, ⟨fun q => Bool.noConfusion q, fun q => absurd q hno⟩, (hOA.join hO4).sub (List.nil_sublist _)⟩
     ·have hbt : b = true := by simpa using c6
      obtain ⟨hS1, hS2⟩ := hSb hbt
      have hK1 : KD h.nl (opG LM E tk) (PM h p k ((i + 1 : Nat) : Int)) of1 := hK.step (fun q => by have := q.1; omega) hS1 fun x _ => ⟨fun q => by
       by_cases e : x = i
       ·exact .inr e
       ·exact .inl ⟨by have := q.1; omega, q.2⟩, fun q => q.elim (fun q => ⟨by have := q.1; omega, q.2⟩) fun e => by rw [e]; exact ⟨by omega, hel2.2⟩⟩
      refine run_skip <| run_inBlock <| run_region <| rl_v rfl rfl rfl (ov_add rfl rfl rfl (by omega)) ?_
      refine rl_v rfl rfl rfl (ov_move rfl rfl) <| rl_nil ?_
      refine Run.use (ih36 (i + 1) _ ?_ ?_) (And.intro (by exact slot_int rfl (by first | omega)) (And.intro rfl (And.intro rfl (And.intro rfl (And.intro rfl (And.intro rfl (And.intro rfl (And.intro rfl (And.intro rfl trivial)))))))))
      ·first | omega | (dsimp only; omega)
      ·exact ⟨by omega, of1, Lo1, hK1, fun q q0 q1 => ⟨hS1.rng q q0 q1 (hofr q q0 q1).1, hS2 q q0 q1⟩, hO4.sub (.cons_cons _ (.cons _ (.cons_cons _ (.cons_cons _ (List.nil_sublist _)))))⟩
    ·have hnel : ¬ ((k : Int) ≤ i ∧ 0 < h.gn p i) := hmn.1 (by simpa using g1)
     refine rl_gskip rfl rfl rfl rfl rfl rfl <| rl_gskip rfl rfl rfl rfl rfl rfl <| rl_gskip rfl rfl rfl rfl rfl rfl <| rl_gskip rfl rfl rfl rfl rfl rfl <| rl_gskip rfl rfl rfl rfl rfl rfl <| rl_gskip rfl rfl rfl rfl rfl rfl <| rl_gskip rfl rfl rfl rfl rfl rfl <| rl_v rfl rfl rfl (ov_pick_f rfl rfl rfl) <| rl_nil <| run_cond_f rfl <| run_skip <| run_inBlock <| run_region <| rl_v rfl rfl rfl (ov_add rfl rfl rfl (by omega)) ?_
     refine rl_v rfl rfl rfl (ov_move rfl rfl) <| rl_nil ?_
     refine Run.use (ih36 (i + 1) _ ?_ ?_) (And.intro (by exact slot_int rfl (by first | omega)) (And.intro rfl (And.intro rfl (And.intro rfl (And.intro rfl (And.intro rfl (And.intro rfl (And.intro rfl (And.intro rfl trivial)))))))))
     ·first | omega | (dsimp only; omega)
     ·exact ⟨by omega, of, Lo, hK.congrP fun x _ => ⟨fun q => ⟨by have := q.1; omega, q.2⟩, fun q => ⟨⟨q.1.1, Classical.byContradiction fun hn => by { have := q.1; have e : x = i := (by omega); rw [e] at q; exact hnel ⟨q.1.1, q.2⟩ }⟩, q.2⟩⟩, hofr, hO3⟩
   ·have hib2 : i = h.nb := by omega
    rw [hib2] at hK
    have hKm := hK
    refine run_exit rfl <| run_seq <| run_region <| rl_v rfl rfl rfl (ov_move rfl rfl) ?_
    refine rl_make (h.nl) rfl rfl rfl rfl Tryz.underlying85 info_30 rfl hO3 rfl rfl (by rfl) (by rfl) ⟨by omega, by omega⟩ (fun yb w44 hO45 hs46 => ?_)
    have hO5 := own_none1H h.nl (hO45.sub (.cons_cons _ (List.nil_sublist _)))
    refine rl_v rfl rfl rfl (ov_assign rfl rfl) <| rl_nil <| run_seq <| run_seq <| run_region <| rl_v rfl rfl rfl (ov_move rfl rfl) <| rl_v rfl rfl rfl (ov_len rfl Tryz.underlying85 rfl) <| rl_v rfl rfl rfl (ov_move rfl rfl) <| rl_nil <| run_block <| Run.keep [0, 1, 8, 16, 101, 102, 103] (F' := [(0, _), (1, _), (8, _), (16, _), (101, _), (102, _), (103, _)]) rfl <| run_loop1 (fun (i : Nat) => [(103, .int .i64 (i : Int))]) [0, 1, 8, 16, 101, 102] (fun (i : Nat) (w47 : World) => i ≤ h.nb ∧ ∃ (L2 : Int → Nat) (E2 : Int → Int → Int) (H2 : List (Option Blk)), OTab (.slice (some ⟨yb, 0, none⟩) h.nl h.nl) 30 3 h.nl L2 (fun r q => iv (E2 r q)) H2 ∧ (∀ j : Int, 0 ≤ j → j < h.nl → ∀ x : Int, (∃ q : Int, (0 ≤ q ∧ q < L2 j) ∧ E2 j q = x) ↔ (tk j = false ∧ (0 ≤ x ∧ x < i) ∧ (k : Int) ≤ x ∧ h.wn p x j)) ∧ (∀ j : Int, 0 ≤ j → j < h.nl → L2 j ≤ i) ∧ Own w15.heap.size w15 w47 (H2 ++ [])) (fun (i : Nat) => h.nb - i) (0) ?_ (And.intro (by exact slot_int rfl (by first | omega)) (And.intro rfl (And.intro rfl (And.intro rfl (And.intro rfl (And.intro rfl (And.intro rfl trivial))))))) ?_
    ·exact ⟨Nat.zero_le _, fun _ => 0, fun _ _ => 0, _, OTab.nils yb 30 3 h.nl _ _ (by unfold maxLen; omega) (fun _ _ _ => rfl), fun j _ _ x => ⟨fun ⟨q, hq, _⟩ => by have q2 : q < ((0 : Nat) : Int) := hq.2; omega, fun q => by have := q.2.1; omega⟩, fun j _ _ => Nat.zero_le _, hO5⟩
    intro i w47 hIw47 ih48
    obtain ⟨hi, L2, E2, H2, hT, hch, hbd, hO4⟩ := hIw47
    show Run _ _ _ _ [(103, _), (0, _), (1, _), (8, _), (16, _), (101, _), (102, _)] _ _
    refine run_seq <| run_region <| rl_v rfl rfl rfl (ov_lss rfl rfl rfl) <| rl_nil <| run_seq ?_
    first | refine run_cond_dec rfl (fun c7 => ?_) (fun c7 => ?_) | refine run_cond rfl (fun c7 => ?_) (fun c7 => ?_)
    ·obtain ⟨rr, rc, erR, hrI⟩ := hrw i (by omega) c7
     obtain ⟨eb, eo, hea, her⟩ := hrI.open
     have hLi := hLE i (by omega) c7
     refine run_skip <| run_seq <| run_block <| run_seq <| run_region <| rl_v rfl rfl rfl (ov_move rfl rfl) <| rl_v rfl rfl rfl (ov_index1 rfl Tryz.underlying85 (by kernel_rfl) rfl rfl ⟨by omega, by omega⟩ rfl) ?_
     refine rl_v rfl rfl rfl (ov_load rfl Tryz.underlying30 rfl rfl (by exact (hcellR _ hO4.below i (by omega) c7).trans (congrArg some erR))) ?_
     refine rl_v rfl rfl rfl (ov_assign rfl rfl) <| rl_v rfl rfl rfl (ov_assign rfl rfl) <| rl_nil <| run_seq <| run_region <| rl_v rfl rfl rfl (ov_move rfl rfl) <| rl_v rfl rfl rfl (ov_len rfl Tryz.underlying30 rfl) <| rl_v rfl rfl rfl (ov_move rfl rfl) <| rl_nil <| run_block <| Run.keep [0, 1, 8, 16, 17, 101, 102, 103, 108, 109, 110] (F' := [(0, _), (1, _), (8, _), (16, _), (17, _), (101, _), (102, _), (103, _), (108, _), (109, _), (110, _)]) rfl <| run_loop1 (fun (q : Nat) => [(110, .int .i64 (q : Int))]) [0, 1, 8, 16, 17, 101, 102, 103, 108, 109] (fun (q : Nat) (w49 : World) => q ≤ L i ∧ ∃ (L3 : Int → Nat) (E3 : Int → Int → Int) (H3 : List (Option Blk)), OTab (.slice (some ⟨yb, 0, none⟩) h.nl h.nl) 30 3 h.nl L3 (fun r q => iv (E3 r q)) H3 ∧ (∀ j : Int, 0 ≤ j → j < h.nl → ∀ x : Int, (∃ y : Int, (0 ≤ y ∧ y < L3 j) ∧ E3 j y = x) ↔ (tk j = false ∧ (((0 ≤ x ∧ x < i) ∧ (k : Int) ≤ x ∧ h.wn p x j) ∨ (x = i ∧ ∃ y : Int, (0 ≤ y ∧ y < q) ∧ E i y = j)))) ∧ (∀ j : Int, 0 ≤ j → j < h.nl → L3 j ≤ i + 1 ∧ ((∀ y : Int, 0 ≤ y → y < q → E i y ≠ j) → L3 j ≤ i)) ∧ Own w15.heap.size w15 w49 (H3 ++ [])) (fun (q : Nat) => L i - q) (0) ?_ (And.intro (by exact slot_int rfl (by first | omega)) (And.intro rfl (And.intro rfl (And.intro rfl (And.intro rfl (And.intro rfl (And.intro rfl (And.intro rfl (And.intro rfl (And.intro rfl (And.intro rfl trivial))))))))))) ?_
     ·exact ⟨Nat.zero_le _, L2, E2, H2, hT, fun j j0 j1 x => (hch j j0 j1 x).trans ⟨fun q => ⟨q.1, .inl q.2⟩, fun q => ⟨q.1, q.2.resolve_right fun ⟨_, y, hy, _⟩ => by omega⟩⟩, fun j j0 j1 => ⟨by have := hbd j j0 j1; omega, fun _ => hbd j j0 j1⟩, hO4⟩
     intro q w49 hIw49 ih50
     obtain ⟨hq, L3, E3, H3, hT3, hch3, hbd3, hO5⟩ := hIw49
     show Run _ _ _ _ [(110, _), (0, _), (1, _), (8, _), (16, _), (17, _), (101, _), (102, _), (103, _), (108, _), (109, _)] _ _
     refine run_seq <| run_region <| rl_v rfl rfl rfl (ov_lss rfl rfl rfl) <| rl_nil <| run_seq ?_
     first | refine run_cond_dec rfl (fun c8 => ?_) (fun c8 => ?_) | refine run_cond rfl (fun c8 => ?_) (fun c8 => ?_)
     ·have hx := hLi.2 q (by omega) c8
      have hki2 : (k : Int) ≤ i := Classical.byContradiction fun hn => by
       have := (hz i (by omega) c7 (.inl (by omega))).2.2
       omega
      refine run_skip <| run_seq <| run_block <| run_seq <| run_region <| rl_v rfl rfl rfl (ov_index1 rfl Tryz.underlying30 (by kernel_rfl) rfl rfl ⟨by omega, by omega⟩ (by exact hea (by omega))) ?_
      refine rl_v rfl rfl rfl (ov_load rfl Tryz.underlying3 rfl rfl (by exact her _ hO5.below q (by omega) c8)) ?_
      refine rl_v rfl rfl rfl (ov_assign rfl rfl) <| rl_nil <| run_seq <| run_region <| rl_v rfl rfl rfl (ov_move rfl rfl) <| rl_v rfl rfl rfl (ov_move rfl rfl) <| rl_v rfl rfl rfl (ov_index1 rfl Tryz.underlying84 (by kernel_rfl) rfl rfl ⟨by omega, by omega⟩ (by rfl)) ?_
      refine rl_v rfl rfl rfl (ov_load rfl Tryz.underlying4 rfl rfl (by exact hcellT _ hO5.below (E i q) hx.1 hx.2)) ?_
      refine rl_v rfl rfl rfl (ov_not rfl rfl) <| rl_nil ?_
      first | refine run_cond_dec rfl (fun c9 => ?_) (fun c9 => ?_) | refine run_cond rfl (fun c9 => ?_) (fun c9 => ?_)
      ·have hf : tk (E i q) = false := by simpa using c9
       obtain ⟨x, hxe⟩ : ∃ x : Nat, (x : Int) = E i q := ⟨(E i q).toNat, by omega⟩
       obtain ⟨c0, rv2, ch2, hv2, h32, hOt⟩ := hT3.get9 hO5 x (by omega)
       have h3x := h32 x (by omega)
       obtain ⟨ya, yc, erv⟩ := Row.val h3x
       rw [erv] at h3x
       have hL3 := (hbd3 (E i q) hx.1 hx.2).1
       have hL3i : L3 (E i q) ≤ i := (hbd3 (E i q) hx.1 hx.2).2 fun y y0 y1 e => by
        have hPk := hP2 i hki2 c7
        have := hPk.inc.inc y q y0 y1 c8
        omega
       have h124 : some (rv2 (E i q)) = some (.slice ya (L3 x) yc) := by rw [← hxe, erv]
       rw [hxe] at h3x h124
       refine run_region <| rl_v rfl rfl rfl (ov_move rfl rfl) <| rl_v rfl rfl rfl (ov_move rfl rfl) <| rl_v rfl rfl rfl (ov_move rfl rfl) <| rl_v rfl rfl rfl (ov_move rfl rfl) <| rl_v rfl rfl rfl (ov_index1 rfl Tryz.underlying85 (by kernel_rfl) rfl rfl ⟨by omega, by omega⟩ (by rfl)) ?_
       refine rl_v rfl rfl rfl (ov_load rfl Tryz.underlying30 rfl rfl (by exact (hv2.cellU hOt 1 rfl rfl (i := E i q) (by omega) (by omega)).trans h124)) ?_
       refine rl_v rfl rfl rfl (ov_move rfl rfl) <| rl_ow rfl (ow_one rfl rfl rfl Tryz.underlying30 info_3 rfl hOt rfl rfl) ?_
       rintro _ w51 ⟨b126, rfl, hO52, hs53⟩
       refine rl_ow rfl (ow_app1 rfl rfl rfl Tryz.underlying30 info_3 rfl hO52 0 h3x rfl rfl rfl rfl ⟨by omega, by omega⟩) ?_
       rintro _ w54 ⟨v127, c127, rfl, hO55, hv127, hs56⟩
       obtain ⟨za, zc, rfl⟩ := Row.val hv127
       refine rl_v rfl rfl rfl (ov_index1 rfl Tryz.underlying85 (by kernel_rfl) rfl rfl ⟨by omega, by omega⟩ (by rfl)) ?_
       refine rl_ow rfl (ow_storeI1 rfl rfl (by kernel_rfl) hO55 1 hv2 rfl (fun _ => rfl) rfl ⟨by omega, by omega⟩ rfl rfl) ?_
       rintro _ w57 ⟨c10, rfl, hO58, hv9, hs59⟩
       obtain ⟨H4, hT4, hO6⟩ := OTab.put9 (L := L3) (F := fun r y => iv (E3 r y)) (x := .slice za (L3 (E i q) + 1) zc) (m := L3 (E i q) + 1) (G := upd (fun y => iv (E3 (E i q) y)) (L3 (E i q)) (iv i)) x (by omega) (by rw [hxe]; exact hv9) h32 hv127 hO58
       have hT5 := hT4.congr2 (L' := upd L3 (E i q) (L3 (E i q) + 1)) (G := fun r y => iv (upd E3 (E i q) (upd (E3 (E i q)) (L3 (E i q)) i) r y)) (fun r _ _ => by rw [hxe]) (fun r y _ _ _ _ => by
        rw [hxe]
        by_cases d : r = E i q
        ·rw [d, upd_same, upd_same]; unfold upd; split <;> rfl
        ·rw [upd_ne _ _ d, upd_ne _ _ d])
       have hch4 : ∀ j : Int, 0 ≤ j → j < h.nl → ∀ x : Int, (∃ y : Int, (0 ≤ y ∧ y < upd L3 (E i q) (L3 (E i q) + 1) j) ∧ upd E3 (E i q) (upd (E3 (E i q)) (L3 (E i q)) i) j y = x) ↔ (tk j = false ∧ (((0 ≤ x ∧ x < i) ∧ (k : Int) ≤ x ∧ h.wn p x j) ∨ (x = i ∧ ∃ y : Int, (0 ≤ y ∧ y < ((q + 1 : Nat) : Int)) ∧ E i y = j))) := fun j j0 j1 x => by
        by_cases d : j = E i q
        ·rw [d, upd_same, upd_same]
         constructor
         ·rintro ⟨y, hy, e⟩
          refine ⟨hf, ?_⟩
          by_cases z : y = L3 (E i q)
          ·rw [z, upd_same] at e
           exact .inr ⟨e.symm, q, by omega, rfl⟩
          ·rw [upd_ne _ _ z] at e
           have := ((hch3 _ hx.1 hx.2 x).1 ⟨y, by omega, e⟩).2
           exact this.imp id fun ⟨u, y', hy', e'⟩ => ⟨u, y', by omega, e'⟩
         ·rintro ⟨_, u | ⟨u, _⟩⟩
          ·obtain ⟨y, hy, e⟩ := (hch3 _ hx.1 hx.2 x).2 ⟨hf, .inl u⟩
           exact ⟨y, by omega, by rw [upd_ne _ _ (by omega)]; exact e⟩
          ·exact ⟨L3 (E i q), by omega, by rw [upd_same]; exact u.symm⟩
        ·rw [upd_ne _ _ d, upd_ne _ _ d, hch3 j j0 j1 x]
         refine and_congr_right fun _ => or_congr Iff.rfl (and_congr_right fun _ => ⟨fun ⟨y, hy, e⟩ => ⟨y, by omega, e⟩, fun ⟨y, hy, e⟩ => ⟨y, ⟨hy.1, Classical.byContradiction fun hn => by { have z : y = q := (by omega); rw [z] at e; exact d e.symm }⟩, e⟩⟩)
       have hbd4 : ∀ j : Int, 0 ≤ j → j < h.nl → upd L3 (E i q) (L3 (E i q) + 1) j ≤ i + 1 ∧ ((∀ y : Int, 0 ≤ y → y < ((q + 1 : Nat) : Int) → E i y ≠ j) → upd L3 (E i q) (L3 (E i q) + 1) j ≤ i) := fun j j0 j1 => by
        by_cases d : j = E i q
        ·rw [d, upd_same]
         exact ⟨by omega, fun hn => absurd rfl (hn q (by omega) (by omega))⟩
        ·rw [upd_ne _ _ d]
         have := hbd3 j j0 j1
         exact ⟨this.1, fun hn => this.2 fun y y0 y1 => hn y y0 (by omega)⟩
       refine rl_nil <| run_inBlock <| run_region <| rl_v rfl rfl rfl (ov_add rfl rfl rfl (by omega)) ?_
       refine rl_v rfl rfl rfl (ov_move rfl rfl) <| rl_nil ?_
       refine Run.use (ih50 (q + 1) _ ?_ ?_) (And.intro (by exact slot_int rfl (by first | omega)) (And.intro rfl (And.intro rfl (And.intro rfl (And.intro rfl (And.intro rfl (And.intro rfl (And.intro rfl (And.intro rfl (And.intro rfl (And.intro rfl trivial)))))))))))
       ·first | omega | (dsimp only; omega)
       ·exact ⟨by omega, _, _, H4, hT5, hch4, hbd4, hO6⟩
      ·have hf : tk (E i q) = true := by simpa using c9
       have hch4 : ∀ j : Int, 0 ≤ j → j < h.nl → ∀ x : Int, (∃ y : Int, (0 ≤ y ∧ y < L3 j) ∧ E3 j y = x) ↔ (tk j = false ∧ (((0 ≤ x ∧ x < i) ∧ (k : Int) ≤ x ∧ h.wn p x j) ∨ (x = i ∧ ∃ y : Int, (0 ≤ y ∧ y < ((q + 1 : Nat) : Int)) ∧ E i y = j))) := fun j j0 j1 x => by
        rw [hch3 j j0 j1 x]
        refine and_congr_right fun hj => or_congr Iff.rfl (and_congr_right fun _ => ⟨fun ⟨y, hy, e⟩ => ⟨y, by omega, e⟩, fun ⟨y, hy, e⟩ => ⟨y, ⟨hy.1, Classical.byContradiction fun hn => by { have z : y = q := (by omega); rw [z] at e; rw [← e, hf] at hj; exact Bool.noConfusion hj }⟩, e⟩⟩)
       refine run_skip <| run_inBlock <| run_region <| rl_v rfl rfl rfl (ov_add rfl rfl rfl (by omega)) ?_
       refine rl_v rfl rfl rfl (ov_move rfl rfl) <| rl_nil ?_
       refine Run.use (ih50 (q + 1) _ ?_ ?_) (And.intro (by exact slot_int rfl (by first | omega)) (And.intro rfl (And.intro rfl (And.intro rfl (And.intro rfl (And.intro rfl (And.intro rfl (And.intro rfl (And.intro rfl (And.intro rfl (And.intro rfl trivial)))))))))))
       ·first | omega | (dsimp only; omega)
       ·exact ⟨by omega, L3, E3, H3, hT3, hch4, fun j j0 j1 => ⟨(hbd3 j j0 j1).1, fun hn => (hbd3 j j0 j1).2 fun y y0 y1 => hn y y0 (by omega)⟩, hO5⟩
     ·have hqL : q = L i := by omega
      rw [hqL] at hch3
      have hch5 : ∀ j : Int, 0 ≤ j → j < h.nl → ∀ x : Int, (∃ y : Int, (0 ≤ y ∧ y < L3 j) ∧ E3 j y = x) ↔ (tk j = false ∧ (0 ≤ x ∧ x < ((i + 1 : Nat) : Int)) ∧ (k : Int) ≤ x ∧ h.wn p x j) := fun j j0 j1 x => by
       rw [hch3 j j0 j1 x]
       refine and_congr_right fun _ => ⟨fun q => ?_, fun q => ?_⟩
       ·rcases q with u | ⟨u, y, hy, e⟩
        ·exact ⟨by omega, u.2⟩
        ·have hki2 : (k : Int) ≤ i := Classical.byContradiction fun hn => by
          have := (hz i (by omega) c7 (.inl (by omega))).2.2
          omega
         rw [u]
         exact ⟨by omega, hki2, (((hP2 i hki2 c7).mem j).1 ⟨y, hy, e⟩).2⟩
       ·by_cases e : x = i
        ·rw [e] at q
         obtain ⟨y, hy, e'⟩ := ((hP2 i q.2.1 c7).mem j).2 ⟨⟨j0, j1⟩, q.2.2⟩
         exact .inr ⟨e, y, hy, e'⟩
        ·exact .inl ⟨by omega, q.2⟩
      refine run_exit rfl <| run_inBlock <| run_region <| rl_v rfl rfl rfl (ov_add rfl rfl rfl (by omega)) ?_
      refine rl_v rfl rfl rfl (ov_move rfl rfl) <| rl_nil ?_
      refine Run.use (ih48 (i + 1) _ ?_ ?_) (And.intro (by exact slot_int rfl (by first | omega)) (And.intro rfl (And.intro rfl (And.intro rfl (And.intro rfl (And.intro rfl (And.intro rfl trivial)))))))
      ·first | omega | (dsimp only; omega)
      ·exact ⟨by omega, L3, E3, H3, hT3, hch5, fun j j0 j1 => (hbd3 j j0 j1).1, hO5⟩
    ·have hib3 : i = h.nb := by omega
     rw [hib3] at hch hbd
     have hA2 := hO4
     have hIB := hT.reads hA2
     have hop2 : ∀ j x : Int, 0 ≤ j → j < h.nl → 0 ≤ x → x < h.nb → (h.opR p k a x j ↔ opG L2 E2 (fun _ => false) j x) := fun j x j0 j1 x0 x1 => by
      have ht := htk j j0 j1
      have hc := hch j j0 j1 x
      unfold opG
      rw [hc]
      constructor
      ·rintro ⟨q1, q2, q3⟩
       refine ⟨⟨?_, ⟨x0, x1⟩, q1.1, q2⟩, rfl⟩
       cases hb : tk j with
       | false => rfl
       | true => exact absurd (ht.1 hb) q3
      ·rintro ⟨⟨q1, q2, q3, q4⟩, _⟩
       exact ⟨⟨q3, x1⟩, q4, fun q => by have := ht.2 q; rw [this] at q1; exact Bool.noConfusion q1⟩
     have hE2 : ∀ j q : Int, 0 ≤ j → j < h.nl → 0 ≤ q → q < L2 j → 0 ≤ E2 j q ∧ E2 j q < h.nb := fun j q j0 j1 q0 q1 => by
      have := ((hch j j0 j1 (E2 j q)).1 ⟨q, ⟨q0, q1⟩, rfl⟩).2.1
      omega
     have hI2 := Own.init w47
     refine run_exit rfl <| run_seq <| run_region <| rl_v rfl rfl rfl (ov_move rfl rfl) <| rl_v rfl rfl rfl (ov_move rfl rfl) <| rl_v rfl rfl rfl (ov_len rfl Tryz.underlying25 rfl) ?_
     refine rl_call callable_52 rfl rfl rfl rfl rfl rfl (newMat_any (some ⟨yb, 0, none⟩) h.nl h.nl h.nb _ (by omega) (by omega)) (fun e60 w61 hp62 => ?_)
     obtain ⟨mb2, lb2, bb2, rfl, hOb⟩ := hp62
     refine ⟨_, rfl, ?_⟩
     have hO63 := hI2.join hOb
     have hK2 : KD h.nb (opG L2 E2 (fun _ => false)) (PL p k a 0) (fun _ => -1) := (KD.init h.nb _ (fun _ => -1) fun k k0 k1 => by show (-1 : Int) < 0; decide).congrP fun x _ => ⟨False.elim, fun q => by have := q.1; omega⟩
     refine rl_v rfl rfl rfl (ov_assign rfl rfl) <| rl_nil <| run_seq <| run_seq <| run_region <| rl_v rfl rfl rfl (ov_move rfl rfl) <| rl_v rfl rfl rfl (ov_len rfl Tryz.underlying85 rfl) <| rl_v rfl rfl rfl (ov_move rfl rfl) <| rl_nil <| run_block <| Run.keep [0, 1, 8, 21, 136, 137] (F' := [(0, _), (1, _), (8, _), (21, _), (136, _), (137, _)]) rfl <| run_loop1 (fun (j : Nat) => [(137, .int .i64 (j : Int))]) [0, 1, 8, 21, 136] (fun (j : Nat) (w64 : World) => j ≤ h.nl ∧ ∃ (of : Int → Int) (Lo : Int → Value), KD h.nb (opG L2 E2 (fun _ => false)) (PL p k a j) of ∧ (∀ q : Int, 0 ≤ q → q < h.nb → -1 ≤ of q ∧ of q < h.nl) ∧ Own w47.heap.size w47 w64 [some (vch bb2 3 h.nb (fun j => iv (of j))), some (vch lb2 3 h.nl Lo), mtB mb2 lb2 bb2 (some ⟨yb, 0, none⟩) h.nl h.nl h.nb]) (fun (j : Nat) => h.nl - j) (0) ?_ (And.intro (by exact slot_int rfl (by first | omega)) (And.intro rfl (And.intro rfl (And.intro rfl (And.intro rfl (And.intro rfl trivial)))))) ?_
     ·exact ⟨Nat.zero_le _, fun _ => -1, fun _ => iv (-1), hK2, fun q q0 q1 => by show (-1 : Int) ≤ -1 ∧ (-1 : Int) < h.nl; omega, hO63⟩
     intro j w64 hIw64 ih65
     obtain ⟨hj, of, Lo, hK, hofr, hO3⟩ := hIw64
     show Run _ _ _ _ [(137, _), (0, _), (1, _), (8, _), (21, _), (136, _)] _ _
     refine run_seq <| run_region <| rl_v rfl rfl rfl (ov_lss rfl rfl rfl) <| rl_nil <| run_seq ?_
     first | refine run_cond_dec rfl (fun c10 => ?_) (fun c10 => ?_) | refine run_cond rfl (fun c10 => ?_) (fun c10 => ?_)
     ·have hcT : ∀ (w' : World), Own w47.heap.size w47 w' [] → w'.cell? ⟨tb, 0 + (j : Int).toNat, none⟩ = some (.bool (tk j)) := fun w' hO => hcellT w' (hA2.join hO).below j (by omega) c10
      have hpj : ∀ (w' : World), Own w47.heap.size w47 w' [] → w'.cell? ⟨pb, po + (j : Int).toNat, none⟩ = some (iv (p j)) := fun w' hO => hpr w' (hOA.join (hA2.join hO)).below j (by omega) c10
      have hskip : (Tkn k a j ∨ ¬ 0 < p j) → KD h.nb (opG L2 E2 (fun _ => false)) (PL p k a ((j + 1 : Nat) : Int)) of := fun hs => hK.congrP fun x _ => ⟨fun q => ⟨by have := q.1; omega, q.2⟩, fun q => ⟨⟨q.1.1, Classical.byContradiction fun hn => by { have := q.1; have e : x = j := (by omega); rw [e] at q; rcases hs with r | r; exact q.2.1 r; exact r q.2.2 }⟩, q.2⟩⟩
      have huns := uns_nonneg (fun _ => false) h.nb
      have hgot : ∀ (b : Bool) (of1 : Int → Int), b = true → (!tk j) = true → 0 < p j → (b = true → KS h.nb (opG L2 E2 (fun _ => false)) j of (fun _ => false) of1 ∧ ∀ q : Int, 0 ≤ q → q < h.nb → of1 q < h.nl) → KD h.nb (opG L2 E2 (fun _ => false)) (PL p k a ((j + 1 : Nat) : Int)) of1 ∧ True := fun b of1 hb ht hp hS => by
       have hnt : ¬ Tkn k a j := fun q => by rw [(htk j (by omega) c10).2 q] at ht; exact Bool.noConfusion ht
       exact ⟨hK.step (fun q => by have := q.1; omega) (hS hb).1 fun x _ => ⟨fun q => by
        by_cases e : x = j
        ·exact .inr e
        ·exact .inl ⟨by have := q.1; omega, q.2⟩, fun q => q.elim (fun q => ⟨by have := q.1; omega, q.2⟩) fun e => by rw [e]; exact ⟨by omega, hnt, hp⟩⟩, trivial⟩
      have hnot : ∀ (b : Bool) (of1 : Int → Int) (s1 : Int → Bool), b = false → (!tk j) = true → 0 < p j → (b = false → of1 = of ∧ KF h.nb (opG L2 E2 (fun _ => false)) j of (fun _ => false) s1) → (¬ h.Can p k a) ∧ True := fun b of1 s1 hb ht hp hF => by
       have hnt : ¬ Tkn k a j := fun q => by rw [(htk j (by omega) c10).2 q] at ht; exact Bool.noConfusion ht
       exact ⟨bal_no2 (h := h) (p := p) (k := k) (a := a) (by omega) (by omega) (fun x i x0 x1 i0 i1 q => (hop2 x i x0 x1 i0 i1).1 q) hK (by omega) c10 hnt hp (hF hb).2, trivial⟩
      have hbth : ∀ (b : Bool) (of1 : Int → Int) (s1 : Int → Bool), (b = true → KS h.nb (opG L2 E2 (fun _ => false)) j of (fun _ => false) of1 ∧ ∀ q : Int, 0 ≤ q → q < h.nb → of1 q < h.nl) → (b = false → of1 = of ∧ KF h.nb (opG L2 E2 (fun _ => false)) j of (fun _ => false) s1) → ∀ q : Int, 0 ≤ q → q < h.nb → -1 ≤ of1 q ∧ of1 q < h.nl := fun b of1 s1 hS hF q q0 q1 => by
       cases b with
       | true => exact ⟨(hS rfl).1.rng q q0 q1 (hofr q q0 q1).1, (hS rfl).2 q q0 q1⟩
       | false => rw [(hF rfl).1]; exact hofr q q0 q1
      refine run_skip <| run_seq <| run_block <| run_seq <| run_region <| rl_v rfl rfl rfl (ov_move rfl rfl) <| rl_v rfl rfl rfl (ov_assign rfl rfl) <| rl_nil <| run_seq <| Run.keep [0, 1, 8, 21, 22, 136, 137] (F' := [(0, _), (1, _), (8, _), (21, _), (22, _), (136, _), (137, _)]) rfl <| run_join1 (fun (rb : Bool) => [(163, .bool rb)]) [0, 1, 8, 21, 136, 137] (fun (rb : Bool) (w66 : World) => ∃ (of3 : Int → Int) (Lo3 : Int → Value), (rb = false → KD h.nb (opG L2 E2 (fun _ => false)) (PL p k a ((j + 1 : Nat) : Int)) of3) ∧ (rb = true → ¬ h.Can p k a) ∧ (∀ q : Int, 0 ≤ q → q < h.nb → -1 ≤ of3 q ∧ of3 q < h.nl) ∧ Own w47.heap.size w47 w66 [some (vch bb2 3 h.nb (fun j => iv (of3 j))), some (vch lb2 3 h.nl Lo3), mtB mb2 lb2 bb2 (some ⟨yb, 0, none⟩) h.nl h.nl h.nb]) (fun hk67 => ?_) ?_
      ·refine run_held (fun w' => Own w47.heap.size w47 w' ([])) mixed ?_
       have hO69 := hO3.drew
       generalize World.drew w64 = w68 at hO69 ⊢
       have hS70 : Own w47.heap.size w47 w68 ([]) := by exact hO69.sub (List.nil_sublist _)
       refine rh_v 0 rfl (by kernel_rfl) rfl rfl rfl hS70 (fun _ hS => ov_move rfl rfl) ?_
       refine rh_v 1 rfl (by kernel_rfl) rfl rfl rfl hS70 (fun _ hS => ov_move rfl rfl) ?_
       refine rh_v 2 rfl (by kernel_rfl) rfl rfl rfl hS70 (fun _ hS => ov_index1 rfl Tryz.underlying84 (by kernel_rfl) rfl rfl ⟨by omega, by omega⟩ (by rfl)) ?_
       refine rh_v 3 rfl (by kernel_rfl) rfl rfl rfl hS70 (fun _ hS => ov_load rfl Tryz.underlying4 rfl rfl (by exact hcT _ hS)) ?_
       refine rh_v 4 rfl (by kernel_rfl) rfl rfl rfl hS70 (fun _ hS => ov_not rfl rfl) ?_
       refine rh_v 5 rfl (by kernel_rfl) rfl rfl rfl hS70 (fun _ hS => ov_move rfl rfl) ?_
       first | refine rh_split_dec 145 rfl (fun hg1 => ?_) (fun hg1 => ?_) | refine rh_split 145 rfl (fun hg1 => ?_) (fun hg1 => ?_)
       ·refine rh_gv 6 rfl (by kernel_rfl) rfl rfl rfl rfl rfl hS70 (fun _ hS => ov_move rfl rfl) ?_
        refine rh_gv 7 rfl (by kernel_rfl) rfl rfl rfl rfl rfl hS70 (fun _ hS => ov_move rfl rfl) ?_
        refine rh_gv 8 rfl (by kernel_rfl) rfl rfl rfl rfl rfl hS70 (fun _ hS => ov_index1 rfl Tryz.underlying22 (by kernel_rfl) rfl rfl ⟨by omega, by omega⟩ (by exact hpa (by omega))) ?_
        refine rh_gv 9 rfl (by kernel_rfl) rfl rfl rfl rfl rfl hS70 (fun _ hS => ov_load rfl Tryz.underlying2 rfl rfl (by exact hpj _ hS)) ?_
        refine rh_gv 10 rfl (by kernel_rfl) rfl rfl rfl rfl rfl hS70 (fun _ hS => ov_gtr rfl rfl rfl) ?_
        refine rh_v 11 rfl (by kernel_rfl) rfl rfl rfl hS70 (fun _ hS => ov_pick_t rfl rfl rfl) ?_
        refine rh_v 12 rfl (by kernel_rfl) rfl rfl rfl hS70 (fun _ hS => ov_move rfl rfl) ?_
        first | refine rh_split_dec 152 rfl (fun hg2 => ?_) (fun hg2 => ?_) | refine rh_split 152 rfl (fun hg2 => ?_) (fun hg2 => ?_)
        ·refine rh_gv 13 rfl (by kernel_rfl) rfl rfl rfl rfl rfl hS70 (fun _ hS => ov_move rfl rfl) ?_
         refine rh_gv 14 rfl (by kernel_rfl) rfl rfl rfl rfl rfl hS70 (fun _ hS => ov_move rfl rfl) ?_
         refine rh_gv 15 rfl (by kernel_rfl) rfl rfl rfl rfl rfl hS70 (fun _ hS => ov_move rfl rfl) ?_
         refine rh_gv 16 rfl (by kernel_rfl) rfl rfl rfl rfl rfl hS70 (fun _ hS => ov_len rfl Tryz.underlying25 rfl) ?_
         refine rh_gv 18 rfl (by kernel_rfl) rfl rfl rfl rfl rfl hS70 (fun _ hS => ov_move rfl rfl) ?_
         refine rh_gv 19 rfl (by kernel_rfl) rfl rfl rfl rfl rfl hS70 (fun _ hS => ov_len rfl Tryz.underlying25 rfl) ?_
         refine rh_any2 17 20 (by kernel_rfl) ?_ ?_
         ·refine rc_gop rfl rfl rfl rfl (ow_make (h.nb) rfl rfl rfl Tryz.underlying84 info_4 rfl hO69 rfl rfl (by rfl) (by rfl) ⟨by omega, by omega⟩) ?_
          rintro _ w73 ⟨ab, rfl, hO74, hs75⟩
          have hS76 : Own w47.heap.size w47 w73 ([]) := by exact hO74.sub (List.nil_sublist _)
          refine ⟨hS76, ?_⟩
          refine rh_any1 20 (by kernel_rfl) ?_
          refine rc_gop rfl rfl rfl rfl (ow_make (h.nb) rfl rfl rfl Tryz.underlying84 info_4 rfl hO74 rfl rfl (by rfl) (by rfl) ⟨by omega, by omega⟩) ?_
          rintro _ w77 ⟨sb, rfl, hO78, hs79⟩
          have hS80 : Own w47.heap.size w47 w77 ([]) := by exact hO78.sub (List.nil_sublist _)
          refine ⟨hS80, ?_⟩
          have hOp := hO78.perm ((List.perm_middle (l₁ := [_, _]) (l₂ := [_, _])).trans (.cons _ (.cons _ (List.perm_append_comm (l₁ := [_]) (l₂ := [_, _])))))
          refine rh_any1 21 (by kernel_rfl) ?_
          refine rc_gop rfl rfl rfl rfl (ow_call2 callable_53 rfl rfl rfl rfl rfl (giveH_any (nb := h.nl) (n := h.nb) (by omega) (by omega) (hIB.mono (Nat.le_refl _)) (fun r r0 r1 => by have := hbd r r0 r1; omega) hE2 bb2 sb lb2 mb2 ab h.nl (fun _ => false) [some (vch ab 4 h.nb (fun _ => .bool false))] (fun w' Lo of s hO x x0 x1 => hO.cellI 4 rfl x x0 x1) (uns (fun _ => false) h.nb).toNat j of (fun _ => false) Lo _ (by omega) ⟨by omega, c10, hofr, hK.ok, hOp⟩) (by intro e w' hp; obtain ⟨b, of1, s1, Lo1, rfl, hO4, hSb, hFb⟩ := hp; exact ⟨_, rfl⟩)) ?_
          rintro _ w83 ⟨_, v81, he84, rfl, hp82⟩
          obtain ⟨b, of1, s1, Lo1, rfl, hO4, hSb, hFb⟩ := hp82
          injection he84 with he84; subst he84
          have hS85 : Own w47.heap.size w47 w83 ([]) := by exact hO4.sub (List.nil_sublist _)
          refine ⟨hS85, ?_⟩
          refine rh_gv 22 rfl (by kernel_rfl) rfl rfl rfl rfl rfl hS85 (fun _ hS => ov_not rfl rfl) ?_
          refine rh_v 23 rfl (by kernel_rfl) rfl rfl rfl hS85 (fun _ hS => ov_pick_t rfl rfl rfl) ?_
          refine rh_done (by kernel_rfl) ?_
          refine Run.use (hk67 (!b) _ ?_) (And.intro (by rfl) (And.intro rfl (And.intro rfl (And.intro rfl (And.intro rfl (And.intro rfl (And.intro rfl trivial)))))))
          exact ⟨of1, Lo1, fun q => (hgot b of1 (by cases b; exact Bool.noConfusion q; rfl) hg1 hg2 hSb).1, fun q => (hnot b of1 s1 (by cases b; rfl; exact Bool.noConfusion q) hg1 hg2 hFb).1, hbth b of1 s1 hSb hFb, hO4.sub (.cons_cons _ (.cons _ (.cons_cons _ (.cons_cons _ (List.nil_sublist _)))))⟩
         ·refine rc_gop rfl rfl rfl rfl (ow_make (h.nb) rfl rfl rfl Tryz.underlying84 info_4 rfl hO69 rfl rfl (by rfl) (by rfl) ⟨by omega, by omega⟩) ?_
          rintro _ w86 ⟨sb, rfl, hO87, hs88⟩
          have hS89 : Own w47.heap.size w47 w86 ([]) := by exact hO87.sub (List.nil_sublist _)
          refine ⟨hS89, ?_⟩
          refine rh_any1 17 (by kernel_rfl) ?_
          refine rc_gop rfl rfl rfl rfl (ow_make (h.nb) rfl rfl rfl Tryz.underlying84 info_4 rfl hO87 rfl rfl (by rfl) (by rfl) ⟨by omega, by omega⟩) ?_
          rintro _ w90 ⟨ab, rfl, hO91, hs92⟩
          have hS93 : Own w47.heap.size w47 w90 ([]) := by exact hO91.sub (List.nil_sublist _)
          refine ⟨hS93, ?_⟩
          have hOp := hO91.swap.perm ((List.perm_middle (l₁ := [_, _]) (l₂ := [_, _])).trans (.cons _ (.cons _ (List.perm_append_comm (l₁ := [_]) (l₂ := [_, _])))))
          refine rh_any1 21 (by kernel_rfl) ?_
          refine rc_gop rfl rfl rfl rfl (ow_call2 callable_53 rfl rfl rfl rfl rfl (giveH_any (nb := h.nl) (n := h.nb) (by omega) (by omega) (hIB.mono (Nat.le_refl _)) (fun r r0 r1 => by have := hbd r r0 r1; omega) hE2 bb2 sb lb2 mb2 ab h.nl (fun _ => false) [some (vch ab 4 h.nb (fun _ => .bool false))] (fun w' Lo of s hO x x0 x1 => hO.cellI 4 rfl x x0 x1) (uns (fun _ => false) h.nb).toNat j of (fun _ => false) Lo _ (by omega) ⟨by omega, c10, hofr, hK.ok, hOp⟩) (by intro e w' hp; obtain ⟨b, of1, s1, Lo1, rfl, hO4, hSb, hFb⟩ := hp; exact ⟨_, rfl⟩)) ?_
          rintro _ w96 ⟨_, v94, he97, rfl, hp95⟩
          obtain ⟨b, of1, s1, Lo1, rfl, hO4, hSb, hFb⟩ := hp95
          injection he97 with he97; subst he97
          have hS98 : Own w47.heap.size w47 w96 ([]) := by exact hO4.sub (List.nil_sublist _)
          refine ⟨hS98, ?_⟩
          refine rh_gv 22 rfl (by kernel_rfl) rfl rfl rfl rfl rfl hS98 (fun _ hS => ov_not rfl rfl) ?_
          refine rh_v 23 rfl (by kernel_rfl) rfl rfl rfl hS98 (fun _ hS => ov_pick_t rfl rfl rfl) ?_
          refine rh_done (by kernel_rfl) ?_
          refine Run.use (hk67 (!b) _ ?_) (And.intro (by rfl) (And.intro rfl (And.intro rfl (And.intro rfl (And.intro rfl (And.intro rfl (And.intro rfl trivial)))))))
          exact ⟨of1, Lo1, fun q => (hgot b of1 (by cases b; exact Bool.noConfusion q; rfl) hg1 hg2 hSb).1, fun q => (hnot b of1 s1 (by cases b; rfl; exact Bool.noConfusion q) hg1 hg2 hFb).1, hbth b of1 s1 hSb hFb, hO4.sub (.cons_cons _ (.cons _ (.cons_cons _ (.cons_cons _ (List.nil_sublist _)))))⟩
        ·refine rh_gskip 13 rfl (by kernel_rfl) rfl rfl rfl rfl rfl rfl hS70 ?_
         refine rh_gskip 14 rfl (by kernel_rfl) rfl rfl rfl rfl rfl rfl hS70 ?_
         refine rh_gskip 15 rfl (by kernel_rfl) rfl rfl rfl rfl rfl rfl hS70 ?_
         refine rh_gskip 16 rfl (by kernel_rfl) rfl rfl rfl rfl rfl rfl hS70 ?_
         refine rh_gskip 17 rfl (by kernel_rfl) rfl rfl rfl rfl rfl rfl hS70 ?_
         refine rh_gskip 18 rfl (by kernel_rfl) rfl rfl rfl rfl rfl rfl hS70 ?_
         refine rh_gskip 19 rfl (by kernel_rfl) rfl rfl rfl rfl rfl rfl hS70 ?_
         refine rh_gskip 20 rfl (by kernel_rfl) rfl rfl rfl rfl rfl rfl hS70 ?_
         refine rh_gskip 21 rfl (by kernel_rfl) rfl rfl rfl rfl rfl rfl hS70 ?_
         refine rh_gskip 22 rfl (by kernel_rfl) rfl rfl rfl rfl rfl rfl hS70 ?_
         refine rh_v 23 rfl (by kernel_rfl) rfl rfl rfl hS70 (fun _ hS => ov_pick_f rfl rfl rfl) ?_
         refine rh_done (by kernel_rfl) ?_
         refine Run.use (hk67 (false) _ ?_) (And.intro (by rfl) (And.intro rfl (And.intro rfl (And.intro rfl (And.intro rfl (And.intro rfl (And.intro rfl trivial)))))))
         exact ⟨of, Lo, fun _ => hskip (.inr hg2), fun q => Bool.noConfusion q, hofr, hO69⟩
       ·have htk1 : Tkn k a j := (htk j (by omega) c10).1 (by simpa using hg1)
        refine rh_gskip 6 rfl (by kernel_rfl) rfl rfl rfl rfl rfl rfl hS70 ?_
        refine rh_gskip 7 rfl (by kernel_rfl) rfl rfl rfl rfl rfl rfl hS70 ?_
        refine rh_gskip 8 rfl (by kernel_rfl) rfl rfl rfl rfl rfl rfl hS70 ?_
        refine rh_gskip 9 rfl (by kernel_rfl) rfl rfl rfl rfl rfl rfl hS70 ?_
        refine rh_gskip 10 rfl (by kernel_rfl) rfl rfl rfl rfl rfl rfl hS70 ?_
        refine rh_v 11 rfl (by kernel_rfl) rfl rfl rfl hS70 (fun _ hS => ov_pick_f rfl rfl rfl) ?_
        refine rh_v 12 rfl (by kernel_rfl) rfl rfl rfl hS70 (fun _ hS => ov_move rfl rfl) ?_
        refine rh_gskip 13 rfl (by kernel_rfl) rfl rfl rfl rfl rfl rfl hS70 ?_
        refine rh_gskip 14 rfl (by kernel_rfl) rfl rfl rfl rfl rfl rfl hS70 ?_
        refine rh_gskip 15 rfl (by kernel_rfl) rfl rfl rfl rfl rfl rfl hS70 ?_
        refine rh_gskip 16 rfl (by kernel_rfl) rfl rfl rfl rfl rfl rfl hS70 ?_
        refine rh_gskip 17 rfl (by kernel_rfl) rfl rfl rfl rfl rfl rfl hS70 ?_
        refine rh_gskip 18 rfl (by kernel_rfl) rfl rfl rfl rfl rfl rfl hS70 ?_
        refine rh_gskip 19 rfl (by kernel_rfl) rfl rfl rfl rfl rfl rfl hS70 ?_
        refine rh_gskip 20 rfl (by kernel_rfl) rfl rfl rfl rfl rfl rfl hS70 ?_
        refine rh_gskip 21 rfl (by kernel_rfl) rfl rfl rfl rfl rfl rfl hS70 ?_
        refine rh_gskip 22 rfl (by kernel_rfl) rfl rfl rfl rfl rfl rfl hS70 ?_
        refine rh_v 23 rfl (by kernel_rfl) rfl rfl rfl hS70 (fun _ hS => ov_pick_f rfl rfl rfl) ?_
        refine rh_done (by kernel_rfl) ?_
        refine Run.use (hk67 (false) _ ?_) (And.intro (by rfl) (And.intro rfl (And.intro rfl (And.intro rfl (And.intro rfl (And.intro rfl (And.intro rfl trivial)))))))
        exact ⟨of, Lo, fun _ => hskip (.inl htk1), fun q => Bool.noConfusion q, hofr, hO69⟩
      ·intro rb w66 hJw66
       obtain ⟨of3, Lo3, hy3, hn3, hofr3, hO6⟩ := hJw66
       show Run _ _ _ _ [(163, _), (0, _), (1, _), (8, _), (21, _), (136, _), (137, _)] _ _
       first | refine run_cond_dec rfl (fun c11 => ?_) (fun c11 => ?_) | refine run_cond rfl (fun c11 => ?_) (fun c11 => ?_)
       ·refine run_seq <| run_region <| rl_v rfl rfl rfl (ov_assign rfl rfl) <| rl_nil <| run_ret Tryz.func27 (res1 Tryz.results27 rfl) ?_
        exact ⟨false, rfl, ⟨fun q => Bool.noConfusion q, fun q => absurd q (hn3 c11)⟩, (hOA.join (hA2.join hO6)).sub (List.nil_sublist _)⟩
       ·refine run_skip <| run_inBlock <| run_region <| rl_v rfl rfl rfl (ov_add rfl rfl rfl (by omega)) ?_
        refine rl_v rfl rfl rfl (ov_move rfl rfl) <| rl_nil ?_
        refine Run.use (ih65 (j + 1) _ ?_ ?_) (And.intro (by exact slot_int rfl (by first | omega)) (And.intro rfl (And.intro rfl (And.intro rfl (And.intro rfl (And.intro rfl trivial))))))
        ·first | omega | (dsimp only; omega)
        ·exact ⟨by omega, of3, Lo3, hy3 c11, hofr3, hO6⟩
     ·have hjn : j = h.nl := by omega
      rw [hjn] at hK
      have hcan := bal_yes (h := h) (p := p) (k := k) (a := a) (by omega) (by omega) hP (fun x j x0 x1 hg j0 j1 q => (hop1 x j x0 x1 hg j0 j1).2 q) (fun j x j0 j1 x0 x1 q => (hop2 j x j0 j1 x0 x1).2 q) hKm hK
      refine run_exit rfl <| run_seq <| run_region <| rl_v rfl rfl rfl (ov_assign rfl rfl) <| rl_nil <| run_ret Tryz.func27 (res1 Tryz.results27 rfl) ?_
      exact ⟨true, rfl, ⟨fun _ => hcan, fun _ => rfl⟩, (hOA.join (hA2.join hO3)).sub (List.nil_sublist _)⟩
end Go.Proofs.YtbcjfjldmfljgaaGreat
