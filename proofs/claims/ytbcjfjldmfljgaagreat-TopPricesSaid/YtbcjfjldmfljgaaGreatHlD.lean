import Derived.Test.YtbcjfjldmfljgaaGreatBitA
import Derived.Test.YtbcjfjldmfljgaaGreatHlC
set_option maxRecDepth 100000
namespace Go.Proofs.YtbcjfjldmfljgaaGreat
open Go.RowKit Go.Proofs
section
variable {B : Nat} {w0 w : World}
theorem own_take (K : List (Option Blk)) {n : Nat} {ch : Nat → Option Blk} {R : List (Option Blk)} (i : Nat) (hi : i < n) (h : Own B w0 w (K ++ ((List.range n).map ch ++ R))) : Own B w0 w (ch i :: (K ++ (((List.range n).erase i).map ch ++ R))) := by
 have p := ((List.perm_cons_erase (List.mem_range.2 hi)).map ch).append_right R
 exact h.perm ((p.append_left K).trans List.perm_middle)
theorem own_put (K : List (Option Blk)) {n : Nat} {ch : Nat → Option Blk} {R : List (Option Blk)} {cr : Option Blk} (i : Nat) (hi : i < n) (h : Own B w0 w (cr :: (K ++ (((List.range n).erase i).map ch ++ R)))) : Own B w0 w (K ++ ((List.range n).map (fun r => if r = i then cr else ch r) ++ R)) := by
 have p := ((List.perm_cons_erase (List.mem_range.2 hi)).map (fun r => if r = i then cr else ch r)).append_right R
 have e : ((List.range n).erase i).map (fun r => if r = i then cr else ch r) = ((List.range n).erase i).map ch := List.map_congr_left fun r hr => by
  have : r ≠ i := fun e => by rw [e] at hr; exact (List.Nodup.not_mem_erase List.nodup_range) hr
  exact if_neg this
 simp only [List.map_cons, if_true, e] at p
 exact h.perm (List.perm_middle.symm.trans (p.symm.append_left K))
end
end Go.Proofs.YtbcjfjldmfljgaaGreat
set_option maxRecDepth 100000
namespace Go.Proofs.YtbcjfjldmfljgaaGreat
open Go.RowKit Go.Proofs Go.MapKept
structure HalM (B : Nat) (w : World) (wa pa : Option Addr) (h : Hal) (p : Int → Int) : Prop where
 nb : h.nb ≤ 64
 nl : h.nl ≤ 64
 v : ∀ i j : Int, 0 ≤ i → i < h.nb → 0 ≤ j → j < h.nl → W9 (h.V i j)
 pr : ∀ j : Int, 0 ≤ j → j < h.nl → W9 (p j)
 t : ITab B w wa h.nb (fun _ => h.nl) (fun i j => iv (h.V i j))
 q : IAt B w pa h.nl (fun j => iv (p j))
theorem Own.halM {B : Nat} {w0 w : World} {H : List (Option Blk)} (hO : Own B w0 w H) {wa pa : Option Addr} {h : Hal} {p : Int → Int} (hM : HalM B w0 wa pa h p) : HalM w.heap.size w wa pa h p :=
 ⟨hM.nb, hM.nl, hM.v, hM.pr, (hM.t.below hO.below).mono hO.size, hO.iatU hM.q⟩
structure EgO (h : Hal) (p : Int → Int) (ea : Option Addr) (ec : Nat) (L : Int → Nat) (E : Int → Int → Int) (rv : Int → Value) (c : Option Blk) (ch : Nat → Option Blk) : Prop where
 o : IRow (.slice ea h.nb ec) 30 h.nb rv c
 r : ∀ r : Nat, r < h.nb → IRow (rv r) 3 (L r) (fun k => iv (E r k)) (ch r)
 yes : ∀ r : Int, 0 ≤ r → r < h.nb → 0 < h.gn p r → Pick (h.wn p r) h.nl (L r) (E r)
 no_ : ∀ r : Int, 0 ≤ r → r < h.nb → ¬ 0 < h.gn p r → rv r = .slice none 0 0 ∧ L r = 0
set_option maxHeartbeats 4000000 in
theorem eagerH_any (wa pa : Option Addr) (wc pc : Nat) (h : Hal) (p : Int → Int) (w : World) (hM : HalM w.heap.size w wa pa h p) :
  Calls Tryz.prog 90 #[.slice wa h.nb wc, .slice pa h.nl pc] w fun e w' => ∃ (ea : Option Addr) (ec : Nat) (L : Int → Nat) (E : Int → Int → Int) (rv : Int → Value) (c : Option Blk) (ch : Nat → Option Blk), e = .returned (.slice ea h.nb ec) ∧ EgO h p ea ec L E rv c ch ∧ Own w.heap.size w w' (c :: ((List.range h.nb).map ch ++ [])) := by
 obtain ⟨hnb, hnl, hV, hp, hT, hQ⟩ := hM
 obtain ⟨A, C, RB, RO, gb, go, hga, hrow, hra, hel, hat⟩ := hT.open
 refine calls_of_run (F := [(0, _), (1, _)]) Tryz.func90 rfl Tryz.ntmps90 rfl rfl ?_
 have hO0 := Own.init w
 refine run_seq <| run_region <| rl_v rfl rfl rfl (ov_assign rfl rfl) <| rl_nil <| run_seq <| run_region <| rl_v rfl rfl rfl (ov_move rfl rfl) <| rl_v rfl rfl rfl (ov_len rfl Tryz.underlying25 rfl) ?_
 refine rl_make (h.nb) rfl rfl rfl rfl Tryz.underlying85 info_30 rfl hO0 rfl rfl (by rfl) (by rfl) ⟨by omega, by omega⟩ (fun sb w1 hO2 hs3 => ?_)
 have hO0 := hO2.nones h.nb
 have hO1 : Own w.heap.size w w1 (some (vch sb 30 h.nb (fun _ => .slice none 0 0)) :: ((List.range h.nb).map (fun _ => none) ++ [])) := by
  rw [List.map_const', List.length_range, List.append_nil]
  exact hO0.perm List.perm_append_comm
 refine rl_v rfl rfl rfl (ov_assign rfl rfl) <| rl_nil <| run_seq <| run_seq <| run_region <| rl_v rfl rfl rfl (ov_move rfl rfl) <| rl_v rfl rfl rfl (ov_len rfl Tryz.underlying25 rfl) <| rl_v rfl rfl rfl (ov_move rfl rfl) <| rl_nil <| run_block <| Run.keep [1, 5, 11, 12, 13] (F' := [(1, _), (5, _), (11, _), (12, _), (13, _)]) rfl <| run_loop1 (fun (i : Nat) => [(13, .int .i64 (i : Int))]) [1, 5, 11, 12] (fun (i : Nat) (w4 : World) => i ≤ h.nb ∧ ∃ (rv : Int → Value) (ch : Nat → Option Blk) (L : Int → Nat) (E : Int → Int → Int), (∀ r : Nat, r < h.nb → IRow (rv r) 3 (L r) (fun k => iv (E r k)) (ch r)) ∧ (∀ r : Int, 0 ≤ r → r < i → 0 < h.gn p r → Pick (h.wn p r) h.nl (L r) (E r)) ∧ (∀ r : Int, 0 ≤ r → r < i → ¬ 0 < h.gn p r → rv r = .slice none 0 0 ∧ L r = 0) ∧ (∀ r : Int, (i : Int) ≤ r → r < h.nb → rv r = .slice none 0 0 ∧ L r = 0) ∧ Own w.heap.size w w4 (some (vch sb 30 h.nb rv) :: ((List.range h.nb).map ch ++ []))) (fun (i : Nat) => h.nb - i) (0) ?_ (And.intro (by exact slot_int rfl (by first | omega)) (And.intro rfl (And.intro rfl (And.intro rfl (And.intro rfl trivial))))) ?_
 ·exact ⟨Nat.zero_le _, fun _ => .slice none 0 0, fun _ => none, fun _ => 0, fun _ _ => 0, fun r _ => IRow.nil _ _, fun r a b => by omega, fun r a b => by omega, fun _ _ _ => ⟨rfl, rfl⟩, hO1⟩
 intro i w4 hIw4 ih5
 obtain ⟨hi, rv, ch, L, E, hR, hy, hn, hz, hO2⟩ := hIw4
 show Run _ _ _ _ [(13, _), (1, _), (5, _), (11, _), (12, _)] _ _
 refine run_seq <| run_region <| rl_v rfl rfl rfl (ov_lss rfl rfl rfl) <| rl_nil <| run_seq ?_
 first | refine run_cond_dec rfl (fun c1 => ?_) (fun c1 => ?_) | refine run_cond rfl (fun c1 => ?_) (fun c1 => ?_)
 ·refine run_skip <| run_seq <| run_block <| run_seq <| run_region <| rl_v rfl rfl rfl (ov_move rfl rfl) <| rl_v rfl rfl rfl (ov_index1 rfl Tryz.underlying25 (by kernel_rfl) rfl rfl ⟨by omega, by omega⟩ (by exact hga (by omega))) ?_
  refine rl_v rfl rfl rfl (ov_load rfl Tryz.underlying22 rfl rfl (by exact hrow _ hO2.below i (by omega) c1)) ?_
  refine rl_v rfl rfl rfl (ov_assign rfl rfl) <| rl_v rfl rfl rfl (ov_assign rfl rfl) <| rl_nil <| run_seq <| run_region <| rl_v rfl rfl rfl (ov_move rfl rfl) <| rl_v rfl rfl rfl (ov_move rfl rfl) ?_
  refine rl_call callable_25 rfl rfl rfl rfl rfl rfl (gainH_any (A i) pa h.nl (C i) pc (h.V i) p _ hnl (fun j j0 j1 => hV i j (by omega) c1 j0 j1) hp (hO2.iatU (hat i (by omega) c1)) (hO2.iatU hQ)) (fun e6 w7 hp8 => ?_)
  obtain ⟨rfl, hOa⟩ := hp8
  refine ⟨_, rfl, ?_⟩
  have hO9 := hO2.join hOa
  refine rl_v rfl rfl rfl (ov_gtr rfl rfl rfl) <| rl_nil ?_
  first | refine run_cond_dec rfl (fun c2 => ?_) (fun c2 => ?_) | refine run_cond rfl (fun c2 => ?_) (fun c2 => ?_)
  ·have hgp : 0 < h.gn p i := c2
   refine run_region <| rl_v rfl rfl rfl (ov_move rfl rfl) <| rl_v rfl rfl rfl (ov_move rfl rfl) <| rl_v rfl rfl rfl (ov_move rfl rfl) <| rl_v rfl rfl rfl (ov_move rfl rfl) ?_
   refine rl_call callable_24 rfl rfl rfl rfl rfl rfl (wantsH_any (A i) pa h.nl (C i) pc (h.V i) p _ hnl (fun j j0 j1 => hV i j (by omega) c1 j0 j1) hp (hO9.iatU (hat i (by omega) c1)) (hO9.iatU hQ)) (fun e10 w11 hp12 => ?_)
   obtain ⟨v, c, K, cb, rfl, hK, hv, _, hOb⟩ := hp12
   refine ⟨_, rfl, ?_⟩
   have hO13 := hO9.join hOb
   obtain ⟨va, vc, rfl⟩ := Row.val hv
   refine rl_v rfl rfl rfl (ov_index1 rfl Tryz.underlying85 (by kernel_rfl) rfl rfl ⟨by omega, by omega⟩ (by rfl)) ?_
   refine rl_ow rfl (ow_store rfl rfl (by kernel_rfl) hO13 1 rfl rfl ⟨by omega, by omega⟩ rfl rfl) ?_
   rintro _ w14 ⟨rfl, hO15, hs16⟩
   have hi2 : i < h.nb := by omega
   have hOt := own_take [_, _] i hi2 hO15
   have hOp := own_put [_] i hi2 hOt.tail
   have hR2 : ∀ r : Nat, r < h.nb → IRow (upd rv i (.slice va c vc) r) 3 (upd L i c r) (fun k => iv (upd E i K r k)) (if r = i then cb else ch r) := fun r hr => by
    by_cases e : r = i
    ·rw [if_pos e, e, upd_same, upd_same, upd_same]; exact hv
    ·have e' : (r : Int) ≠ i := by omega
     rw [if_neg e, upd_ne _ _ e', upd_ne _ _ e', show upd E i K (r : Int) = E r from upd_ne _ _ e']; exact hR r hr
   have hy2 : ∀ r : Int, 0 ≤ r → r < ((i + 1 : Nat) : Int) → 0 < h.gn p r → Pick (h.wn p r) h.nl (upd L i c r) (upd E i K r) := fun r r0 r1 hg => by
    by_cases e : r = i
    ·rw [e, upd_same, upd_same]; exact hK
    ·rw [upd_ne _ _ e, upd_ne _ _ e]; exact hy r r0 (by omega) hg
   have hn2 : ∀ r : Int, 0 ≤ r → r < ((i + 1 : Nat) : Int) → ¬ 0 < h.gn p r → upd rv i (.slice va c vc) r = .slice none 0 0 ∧ upd L i c r = 0 := fun r r0 r1 hg => by
    by_cases e : r = i
    ·rw [e] at hg; exact absurd hgp hg
    ·rw [upd_ne _ _ e, upd_ne _ _ e]; exact hn r r0 (by omega) hg
   refine rl_nil <| run_inBlock <| run_region <| rl_v rfl rfl rfl (ov_add rfl rfl rfl (by omega)) ?_
   refine rl_v rfl rfl rfl (ov_move rfl rfl) <| rl_nil ?_
   refine Run.use (ih5 (i + 1) _ ?_ ?_) (And.intro (by exact slot_int rfl (by first | omega)) (And.intro rfl (And.intro rfl (And.intro rfl (And.intro rfl trivial)))))
   ·first | omega | (dsimp only; omega)
   ·exact ⟨by omega, _, _, _, _, hR2, hy2, hn2, fun r r0 r1 => by rw [upd_ne _ _ (by omega), upd_ne _ _ (by omega)]; exact hz r (by omega) r1, hOp⟩
  ·have hgp : ¬ 0 < h.gn p i := c2
   have hy2 : ∀ r : Int, 0 ≤ r → r < ((i + 1 : Nat) : Int) → 0 < h.gn p r → Pick (h.wn p r) h.nl (L r) (E r) := fun r r0 r1 hg => by
    by_cases e : r = i
    ·rw [e] at hg; exact absurd hg hgp
    ·exact hy r r0 (by omega) hg
   have hn2 : ∀ r : Int, 0 ≤ r → r < ((i + 1 : Nat) : Int) → ¬ 0 < h.gn p r → rv r = .slice none 0 0 ∧ L r = 0 := fun r r0 r1 hg => by
    by_cases e : r = i
    ·rw [e]; exact hz i (by omega) c1
    ·exact hn r r0 (by omega) hg
   refine run_skip <| run_inBlock <| run_region <| rl_v rfl rfl rfl (ov_add rfl rfl rfl (by omega)) ?_
   refine rl_v rfl rfl rfl (ov_move rfl rfl) <| rl_nil ?_
   refine Run.use (ih5 (i + 1) _ ?_ ?_) (And.intro (by exact slot_int rfl (by first | omega)) (And.intro rfl (And.intro rfl (And.intro rfl (And.intro rfl trivial)))))
   ·first | omega | (dsimp only; omega)
   ·exact ⟨by omega, rv, ch, L, E, hR, hy2, hn2, fun r r0 r1 => hz r (by omega) r1, hO9⟩
 ·have hib : i = h.nb := by omega
  rw [hib] at hy hn
  refine run_exit rfl <| run_seq <| run_region <| rl_v rfl rfl rfl (ov_move rfl rfl) <| rl_v rfl rfl rfl (ov_assign rfl rfl) <| rl_nil <| run_ret Tryz.func90 (res1 Tryz.results90 rfl) ?_
  exact ⟨_, _, L, E, rv, _, ch, rfl, ⟨IRow.ofV (Nat.le_refl _) (by unfold maxLen; omega) (fun _ _ _ => rfl), hR, hy, hn⟩, hO2⟩
end Go.Proofs.YtbcjfjldmfljgaaGreat
