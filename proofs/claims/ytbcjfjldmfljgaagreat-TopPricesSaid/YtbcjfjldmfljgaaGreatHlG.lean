import Derived.Test.YtbcjfjldmfljgaaGreatGaQ
set_option maxRecDepth 100000
namespace Go.Proofs.YtbcjfjldmfljgaaGreat
open Go.RowKit Go.Proofs Go.MapKept Hal
theorem itab_mk {B : Nat} {w : World} {ao : Option Addr} {n : Nat} {rv : Int → Value} {L : Int → Nat} {F : Int → Int → Value} (h : IAt B w ao n rv) (hr : ∀ r : Int, 0 ≤ r → r < n → ∃ (a : Option Addr) (c : Nat), rv r = .slice a (L r) c ∧ IAt B w a (L r) (F r)) : ITab B w ao n L F := by
 have hex : ∀ r : Int, ∃ q : Option Addr × Nat, 0 ≤ r → r < n → rv r = .slice q.1 (L r) q.2 ∧ IAt B w q.1 (L r) (F r) := fun r => by
  by_cases c : 0 ≤ r ∧ r < n
  ·obtain ⟨a, k, h1, h2⟩ := hr r c.1 c.2
   exact ⟨(a, k), fun _ _ => ⟨h1, h2⟩⟩
  ·exact ⟨(none, 0), fun a b => absurd ⟨a, b⟩ c⟩
 exact ⟨fun r => (Classical.choose (hex r)).1, fun r => (Classical.choose (hex r)).2, h.congr fun r r0 r1 => (Classical.choose_spec (hex r) r0 r1).1, fun r r0 r1 => (Classical.choose_spec (hex r) r0 r1).2⟩
theorem Own.readsH {B : Nat} {w0 w : World} {H : List (Option Blk)} (h : Own B w0 w H) {b n : Nat} {t : TypeId} {G : Int → Value} (hk : some (vch b t n G) ∈ H) : IAt w.heap.size w (some ⟨b, 0, none⟩) n G := by
 obtain ⟨k, hk⟩ := List.mem_iff_getElem?.1 hk
 exact h.reads k hk n (Nat.le_refl _)
def SmI (h : Hal) (p : Int → Int) (sh : Bool) (vb vl : Value) (bn : Nat) (B : Nat) (w0 w : World) : Prop :=
 ∃ (Bs : Int → Int) (ln : Nat) (Ls : Int → Int) (cb cl : Option Blk), IRow vb 3 bn (fun q => iv (Bs q)) cb ∧ IRow vl 3 ln (fun q => iv (Ls q)) cl ∧ ((sh = false ∧ vb = .slice none 0 0 ∧ bn = 0 ∧ NoC h p) ∨ (CrF h p bn Bs ln Ls ∧ (sh = false → ∃ m, Gvn h p (InR Bs bn) (InR Ls ln) m))) ∧ Own B w0 w [cb, cl]
set_option maxHeartbeats 8000000 in
theorem smallestH_any (wa pa : Option Addr) (wc pc : Nat) (h : Hal) (p : Int → Int) (w : World) (hM : HalM w.heap.size w wa pa h p) :
  Calls Tryz.prog 49 #[.slice wa h.nb wc, .slice pa h.nl pc] w fun e w' => ∃ (vb vl : Value) (bn : Nat), e = .returned (.tuple #[vb, vl]) ∧ SmI h p false vb vl bn w.heap.size w w' := by
 have hnb := hM.nb
 have hnl := hM.nl
 have hp0 : ∀ j : Int, 0 ≤ j → j < h.nl → 0 ≤ p j := fun j j0 j1 => (hM.pr j j0 j1).1
 obtain ⟨A, C, RB, RO, gb, go, hga, hrow, hra, hel, hat⟩ := hM.t.open
 refine calls_of_run (F := [(0, _), (1, _)]) Tryz.func49 rfl Tryz.ntmps49 rfl rfl ?_
 have hO0 := Own.init w
 refine run_seq <| run_region <| rl_v rfl rfl rfl (ov_assign rfl rfl) <| rl_v rfl rfl rfl (ov_assign rfl rfl) <| rl_nil <| run_seq <| run_region <| rl_v rfl rfl rfl (ov_move rfl rfl) <| rl_v rfl rfl rfl (ov_move rfl rfl) ?_
 refine rl_call callable_76 rfl rfl rfl rfl rfl rfl (crowdH_any wa pa wc pc h p _ (hO0.halM hM)) (fun e1 w2 hp3 => ?_)
 obtain ⟨ba, bn, bc, Bs, la, ln, lc, Ls, cb, cl, rfl, hvb, hvl, hOa, hcase⟩ := hp3
 refine ⟨_, rfl, ?_⟩
 have hO4 := hO0.join hOa
 have hI0 : SmI h p (!ba.isNone) (.slice ba bn bc) (.slice la ln lc) bn w.heap.size w w2 := by
  refine ⟨Bs, ln, Ls, cb, cl, hvb, hvl, ?_, hO4⟩
  rcases hcase with ⟨h1, h2, h3⟩ | hC
  ·subst h1
   subst h2
   rcases hvb with ⟨e, _⟩ | ⟨b, _, _, e, _⟩
   ·exact .inl ⟨rfl, e, rfl, h3⟩
   ·cases e
  ·refine .inr ⟨hC, fun hs => ?_⟩
   obtain ⟨b, hb⟩ := IRow.addr hvb
   have := hC.n
   rw [hb (by omega)] at hs
   exact Bool.noConfusion hs
 refine rl_v rfl rfl rfl (ov_move rfl rfl) <| rl_v rfl rfl rfl (ov_extract rfl rfl (by rfl)) ?_
 refine rl_v rfl rfl rfl (ov_extract rfl rfl (by rfl)) ?_
 refine rl_v rfl rfl rfl (ov_assign rfl rfl) <| rl_v rfl rfl rfl (ov_assign rfl rfl) <| rl_nil <| run_seq <| run_seq <| run_region <| rl_v rfl rfl rfl (ov_move rfl rfl) <| rl_v rfl rfl rfl (ov_nonil rfl Tryz.underlying30 rfl) <| rl_v rfl rfl rfl (ov_assign rfl rfl) <| rl_nil <| run_block <| Run.keep [0, 1, 4, 5, 6] (F' := [(0, _), (1, _), (4, _), (5, _), (6, _)]) rfl <| run_loop4 (fun (sh : Bool) (vb : Value) (vl : Value) (bn : Nat) => [(6, .bool sh), (4, vb), (5, vl)]) [0, 1] (fun (sh : Bool) (vb : Value) (vl : Value) (bn : Nat) (w5 : World) => SmI h p sh vb vl bn w.heap.size w w5) (fun (sh : Bool) (vb : Value) (vl : Value) (bn : Nat) => bif sh then 2 * bn + 1 else 0) ((!ba.isNone)) (.slice ba bn bc) (.slice la ln lc) (bn) ?_ (And.intro (by rfl) (And.intro rfl (And.intro rfl (And.intro rfl (And.intro rfl trivial))))) ?_
 ·exact hI0
 intro sh vb vl bn w5 hIw5 ih6
 have hI := hIw5
 show Run _ _ _ _ [(6, _), (4, _), (5, _), (0, _), (1, _)] _ _
 obtain ⟨Bs, ln, Ls, cb, cl, hvb, hvl, hcs, hO1⟩ := hI
 obtain ⟨ba, bc, rfl⟩ := Row.val hvb
 refine run_seq <| run_seq <| run_region <| rl_v rfl rfl rfl (ov_move rfl rfl) <| rl_nil ?_
 first | refine run_cond_dec rfl (fun c1 => ?_) (fun c1 => ?_) | refine run_cond rfl (fun c1 => ?_) (fun c1 => ?_)
 ·have hC : CrF h p bn Bs ln Ls := by
   rcases hcs with ⟨e, _⟩ | ⟨hC, _⟩
   ·rw [e] at c1; exact Bool.noConfusion c1
   ·exact hC
  have hbn := hC.n
  have hbl : bn ≤ h.nb := pigeonG (n := bn) (m := h.nb) (e := Bs) (fun q q0 q1 => (hC.c.br (Bs q) ⟨q, ⟨q0, q1⟩, rfl⟩).1) (fun a b a0 a1 b0 b1 e => rise_inj hC.b a0 a1 b0 b1 e)
  obtain ⟨bb, hba⟩ := IRow.addr hvb
  refine run_skip <| run_block <| run_seq <| run_region <| rl_v rfl rfl rfl (ov_assign rfl rfl) <| rl_nil <| run_seq <| run_region <| rl_v rfl rfl rfl (ov_move rfl rfl) <| rl_v rfl rfl rfl (ov_len rfl Tryz.underlying30 rfl) <| rl_v rfl rfl rfl (ov_move rfl rfl) <| rl_nil <| Run.keep [0, 1, 4, 5, 6, 22, 23, 24] (F' := [(0, _), (1, _), (4, _), (5, _), (6, _), (22, _), (23, _), (24, _)]) rfl <| run_join4 (fun (sh2 : Bool) (vb2 : Value) (vl2 : Value) (bn2 : Nat) => [(6, .bool sh2), (4, vb2), (5, vl2)]) [0, 1] (fun (sh2 : Bool) (vb2 : Value) (vl2 : Value) (bn2 : Nat) (w7 : World) => SmI h p sh2 vb2 vl2 bn2 w.heap.size w w7 ∧ (sh2 = true → bn2 < bn)) (fun hk8 => ?_) ?_
  ·refine run_block <| Run.keep [0, 1, 4, 5, 6, 22, 23, 24] (F' := [(0, _), (1, _), (4, _), (5, _), (6, _), (22, _), (23, _), (24, _)]) rfl <| run_loop1 (fun (x : Nat) => [(24, .int .i64 (x : Int)), (6, .bool false), (4, .slice ba bn bc), (5, vl)]) [0, 1, 22, 23] (fun (x : Nat) (w9 : World) => x ≤ bn ∧ (0 < x → NoC (prt h fun i => InR Bs bn i ∧ i ≠ Bs 0) p) ∧ Own w.heap.size w w9 [cb, cl]) (fun (x : Nat) => bn - x) (0) ?_ (And.intro (by exact slot_int rfl (by first | omega)) (And.intro (by rfl) (And.intro rfl (And.intro rfl (And.intro rfl (And.intro rfl (And.intro rfl (And.intro rfl trivial)))))))) ?_
   ·exact ⟨Nat.zero_le _, fun h => by omega, hO1⟩
   intro x w9 hIw9 ih10
   obtain ⟨hx, hno, hO2⟩ := hIw9
   show Run _ _ _ _ [(24, _), (6, _), (4, _), (5, _), (0, _), (1, _), (22, _), (23, _)] _ _
   refine run_seq <| run_region <| rl_v rfl rfl rfl (ov_lss rfl rfl rfl) <| rl_nil <| run_seq ?_
   first | refine run_cond_dec rfl (fun c2 => ?_) (fun c2 => ?_) | refine run_cond rfl (fun c2 => ?_) (fun c2 => ?_)
   ·refine run_skip <| run_seq <| run_block <| run_seq <| run_region <| rl_v rfl rfl rfl (ov_index1 rfl Tryz.underlying30 (by kernel_rfl) rfl rfl ⟨by omega, by omega⟩ (by exact hba (by omega))) ?_
    refine rl_v rfl rfl rfl (ov_load rfl Tryz.underlying3 rfl rfl (by exact hvb.cellU hO2 0 rfl (hba (by omega)) (i := x) (by omega) (by omega))) ?_
    refine rl_v rfl rfl rfl (ov_assign rfl rfl) <| rl_nil <| run_seq <| run_region <| rl_v rfl rfl rfl (ov_move rfl rfl) <| rl_v rfl rfl rfl (ov_len rfl Tryz.underlying25 rfl) ?_
    refine rl_make (h.nb) rfl rfl rfl rfl Tryz.underlying25 info_22 rfl hO2 rfl rfl (by rfl) (by rfl) ⟨by omega, by omega⟩ (fun ob w11 hO12 hs13 => ?_)
    refine rl_v rfl rfl rfl (ov_assign rfl rfl) <| rl_nil <| run_seq <| run_seq <| run_region <| rl_v rfl rfl rfl (ov_move rfl rfl) <| rl_v rfl rfl rfl (ov_len rfl Tryz.underlying25 rfl) <| rl_v rfl rfl rfl (ov_move rfl rfl) <| rl_nil <| run_block <| Run.keep [0, 1, 4, 5, 6, 8, 9, 22, 23, 24, 32, 33] (F' := [(0, _), (1, _), (4, _), (5, _), (6, _), (8, _), (9, _), (22, _), (23, _), (24, _), (32, _), (33, _)]) rfl <| run_loop1 (fun (i : Nat) => [(33, .int .i64 (i : Int))]) [0, 1, 4, 5, 6, 8, 9, 22, 23, 24, 32] (fun (i : Nat) (w14 : World) => i ≤ h.nb ∧ ∃ (rv : Int → Value) (Z : List (Option Blk)), (∀ r : Int, 0 ≤ r → r < i → ((InR Bs bn r ∧ r ≠ Bs x) ∧ rv r = .slice (A r) h.nl (C r)) ∨ (¬ (InR Bs bn r ∧ r ≠ Bs x) ∧ ∃ b : Nat, rv r = .slice (some ⟨b, 0, none⟩) h.nl h.nl ∧ some (vch b 2 h.nl (fun _ => .int .i64 0)) ∈ Z)) ∧ Own w.heap.size w w14 (some (vch ob 22 h.nb rv) :: (Z ++ [cb, cl]))) (fun (i : Nat) => h.nb - i) (0) ?_ (And.intro (by exact slot_int rfl (by first | omega)) (And.intro rfl (And.intro rfl (And.intro rfl (And.intro rfl (And.intro rfl (And.intro rfl (And.intro rfl (And.intro rfl (And.intro rfl (And.intro rfl (And.intro rfl trivial)))))))))))) ?_
    ·exact ⟨Nat.zero_le _, _, [], fun r a b => by omega, hO12⟩
    intro i w14 hIw14 ih15
    obtain ⟨hi, rv, Z, hrv, hO3⟩ := hIw14
    show Run _ _ _ _ [(33, _), (0, _), (1, _), (4, _), (5, _), (6, _), (8, _), (9, _), (22, _), (23, _), (24, _), (32, _)] _ _
    refine run_seq <| run_region <| rl_v rfl rfl rfl (ov_lss rfl rfl rfl) <| rl_nil <| run_seq ?_
    first | refine run_cond_dec rfl (fun c3 => ?_) (fun c3 => ?_) | refine run_cond rfl (fun c3 => ?_) (fun c3 => ?_)
    ·refine run_skip <| run_seq <| run_block <| run_seq <| run_region <| rl_v rfl rfl rfl (ov_move rfl rfl) <| rl_v rfl rfl rfl (ov_assign rfl rfl) <| rl_nil <| run_seq <| run_region <| rl_v rfl rfl rfl (ov_move rfl rfl) <| rl_v rfl rfl rfl (ov_move rfl rfl) <| rl_v rfl rfl rfl (ov_move rfl rfl) <| rl_v rfl rfl rfl (ov_len rfl Tryz.underlying22 rfl) ?_
     refine rl_make (h.nl) rfl rfl rfl rfl Tryz.underlying22 info_2 rfl hO3 rfl rfl (by rfl) (by rfl) ⟨by omega, by omega⟩ (fun zb w16 hO17 hs18 => ?_)
     refine rl_v rfl rfl rfl (ov_index1 rfl Tryz.underlying25 (by kernel_rfl) rfl rfl ⟨by omega, by omega⟩ (by rfl)) ?_
     refine rl_ow rfl (ow_store rfl rfl (by kernel_rfl) hO17 1 rfl rfl ⟨by omega, by omega⟩ rfl rfl) ?_
     rintro _ w19 ⟨rfl, hO20, hs21⟩
     have hOc := hO20.sub (show List.Sublist [cb, cl] _ from .cons _ (.cons _ (List.sublist_append_right _ _)))
     refine rl_nil <| run_seq <| run_region <| rl_v rfl rfl rfl (ov_move rfl rfl) <| rl_v rfl rfl rfl (ov_move rfl rfl) ?_
     refine rl_call callable_26 rfl rfl rfl rfl rfl rfl (contains5_any ba bn bc Bs i _ (by omega) (hvb.reads hOc 0 rfl)) (fun e22 w23 hp24 => ?_)
     obtain ⟨rfl, hbl2⟩ := hp24
     refine ⟨_, rfl, ?_⟩
     have hO25 := hO20.past hbl2
     have hOs := hO25.perm (List.Perm.swap _ _ _)
     have hkeep : ∀ (rv' : Int → Value), (∀ r : Int, r ≠ i → rv' r = rv r) → ∀ r : Int, 0 ≤ r → r < ((i + 1 : Nat) : Int) → r ≠ i → ((InR Bs bn r ∧ r ≠ Bs x) ∧ rv' r = .slice (A r) h.nl (C r)) ∨ (¬ (InR Bs bn r ∧ r ≠ Bs x) ∧ ∃ b : Nat, rv' r = .slice (some ⟨b, 0, none⟩) h.nl h.nl ∧ some (vch b 2 h.nl (fun _ => .int .i64 0)) ∈ some (vch zb 2 h.nl (fun _ => .int .i64 0)) :: Z) := fun rv' he r r0 r1 hne => by
      rw [he r hne]
      rcases hrv r r0 (by omega) with q | ⟨q1, b, q2, q3⟩
      ·exact .inl q
      ·exact .inr ⟨q1, b, q2, List.mem_cons_of_mem _ q3⟩
     have hout : ∀ (_ : ¬ (InR Bs bn i ∧ (i : Int) ≠ Bs x)), ∀ r : Int, 0 ≤ r → r < ((i + 1 : Nat) : Int) → ((InR Bs bn r ∧ r ≠ Bs x) ∧ upd rv i (.slice (some ⟨zb, 0, none⟩) h.nl h.nl) r = .slice (A r) h.nl (C r)) ∨ (¬ (InR Bs bn r ∧ r ≠ Bs x) ∧ ∃ b : Nat, upd rv i (.slice (some ⟨zb, 0, none⟩) h.nl h.nl) r = .slice (some ⟨b, 0, none⟩) h.nl h.nl ∧ some (vch b 2 h.nl (fun _ => .int .i64 0)) ∈ some (vch zb 2 h.nl (fun _ => .int .i64 0)) :: Z) := fun hn r r0 r1 => by
      by_cases e : r = i
      ·rw [e, upd_same]; exact .inr ⟨hn, zb, rfl, List.mem_cons_self ..⟩
      ·exact hkeep _ (fun r hr => upd_ne _ _ hr) r r0 r1 e
     refine rl_v rfl rfl rfl (ov_move rfl rfl) ?_
     first | refine rl_split_dec 45 rfl (fun g5 => ?_) (fun g5 => ?_) | refine rl_split 45 rfl (fun g5 => ?_) (fun g5 => ?_)
     ·refine rl_gv rfl rfl rfl rfl rfl (ov_move rfl rfl) <| rl_gv rfl rfl rfl rfl rfl (ov_move rfl rfl) <| rl_gv rfl rfl rfl rfl rfl (ov_neq rfl rfl rfl) <| rl_v rfl rfl rfl (ov_pick_t rfl rfl rfl) <| rl_nil ?_
      have hin : InR Bs bn i := inR_rk.1 g5
      first | refine run_cond_dec rfl (fun g6 => ?_) (fun g6 => ?_) | refine run_cond rfl (fun g6 => ?_) (fun g6 => ?_)
      ·refine run_region <| rl_v rfl rfl rfl (ov_move rfl rfl) <| rl_v rfl rfl rfl (ov_move rfl rfl) <| rl_v rfl rfl rfl (ov_move rfl rfl) <| rl_v rfl rfl rfl (ov_move rfl rfl) <| rl_v rfl rfl rfl (ov_index1 rfl Tryz.underlying25 (by kernel_rfl) rfl rfl ⟨by omega, by omega⟩ (by exact hga (by omega))) ?_
       refine rl_v rfl rfl rfl (ov_load rfl Tryz.underlying22 rfl rfl (by exact hrow _ hOs.below i (by omega) c3)) ?_
       refine rl_v rfl rfl rfl (ov_index1 rfl Tryz.underlying25 (by kernel_rfl) rfl rfl ⟨by omega, by omega⟩ (by rfl)) ?_
       refine rl_ow rfl (ow_store rfl rfl (by kernel_rfl) hOs 0 rfl rfl ⟨by omega, by omega⟩ rfl rfl) ?_
       rintro _ w27 ⟨rfl, hO28, hs29⟩
       have hk2 : ∀ r : Int, 0 ≤ r → r < ((i + 1 : Nat) : Int) → ((InR Bs bn r ∧ r ≠ Bs x) ∧ upd (upd rv i (.slice (some ⟨zb, 0, none⟩) h.nl h.nl)) i (.slice (A i) h.nl (C i)) r = .slice (A r) h.nl (C r)) ∨ (¬ (InR Bs bn r ∧ r ≠ Bs x) ∧ ∃ b : Nat, upd (upd rv i (.slice (some ⟨zb, 0, none⟩) h.nl h.nl)) i (.slice (A i) h.nl (C i)) r = .slice (some ⟨b, 0, none⟩) h.nl h.nl ∧ some (vch b 2 h.nl (fun _ => .int .i64 0)) ∈ some (vch zb 2 h.nl (fun _ => .int .i64 0)) :: Z) := fun r r0 r1 => by
        by_cases e : r = i
        ·rw [e, upd_same]; exact .inl ⟨⟨hin, g6⟩, rfl⟩
        ·exact hkeep _ (fun r hr => by rw [upd_ne _ _ hr, upd_ne _ _ hr]) r r0 r1 e
       refine rl_nil <| run_inBlock <| run_region <| rl_v rfl rfl rfl (ov_add rfl rfl rfl (by omega)) ?_
       refine rl_v rfl rfl rfl (ov_move rfl rfl) <| rl_nil ?_
       refine Run.use (ih15 (i + 1) _ ?_ ?_) (And.intro (by exact slot_int rfl (by first | omega)) (And.intro rfl (And.intro rfl (And.intro rfl (And.intro rfl (And.intro rfl (And.intro rfl (And.intro rfl (And.intro rfl (And.intro rfl (And.intro rfl (And.intro rfl trivial))))))))))))
       ·first | omega | (dsimp only; omega)
       ·exact ⟨by omega, _, _, hk2, hO28⟩
      ·refine run_skip <| run_inBlock <| run_region <| rl_v rfl rfl rfl (ov_add rfl rfl rfl (by omega)) ?_
       refine rl_v rfl rfl rfl (ov_move rfl rfl) <| rl_nil ?_
       refine Run.use (ih15 (i + 1) _ ?_ ?_) (And.intro (by exact slot_int rfl (by first | omega)) (And.intro rfl (And.intro rfl (And.intro rfl (And.intro rfl (And.intro rfl (And.intro rfl (And.intro rfl (And.intro rfl (And.intro rfl (And.intro rfl (And.intro rfl trivial))))))))))))
       ·first | omega | (dsimp only; omega)
       ·exact ⟨by omega, _, _, hout (fun q => g6 q.2), hOs⟩
     ·refine rl_gskip rfl rfl rfl rfl rfl rfl <| rl_gskip rfl rfl rfl rfl rfl rfl <| rl_gskip rfl rfl rfl rfl rfl rfl <| rl_v rfl rfl rfl (ov_pick_f rfl rfl rfl) <| rl_nil <| run_cond_f rfl <| run_skip <| run_inBlock <| run_region <| rl_v rfl rfl rfl (ov_add rfl rfl rfl (by omega)) ?_
      refine rl_v rfl rfl rfl (ov_move rfl rfl) <| rl_nil ?_
      refine Run.use (ih15 (i + 1) _ ?_ ?_) (And.intro (by exact slot_int rfl (by first | omega)) (And.intro rfl (And.intro rfl (And.intro rfl (And.intro rfl (And.intro rfl (And.intro rfl (And.intro rfl (And.intro rfl (And.intro rfl (And.intro rfl (And.intro rfl trivial))))))))))))
      ·first | omega | (dsimp only; omega)
      ·exact ⟨by omega, _, _, hout (fun q => g5 (inR_rk.2 q.1)), hOs⟩
    ·have hib : i = h.nb := by omega
     rw [hib] at hrv
     have hPT : ITab w14.heap.size w14 (some ⟨ob, 0, none⟩) h.nb (fun _ => h.nl) (fun i j => iv ((prt h fun i => InR Bs bn i ∧ i ≠ Bs x).V i j)) := itab_mk (hO3.readsH (List.mem_cons_self ..)) fun r r0 r1 => by
      rcases hrv r r0 r1 with ⟨q1, q2⟩ | ⟨q1, b, q2, q3⟩
      ·exact ⟨A r, C r, q2, (hO3.iatU (hat r r0 r1)).congr fun j _ _ => by rw [prt_in q1]⟩
      ·exact ⟨some ⟨b, 0, none⟩, h.nl, q2, (hO3.readsH (List.mem_cons_of_mem _ (List.mem_append_left _ q3))).congr fun j _ _ => by rw [prt_out q1]⟩
     have hM' : HalM w14.heap.size w14 (some ⟨ob, 0, none⟩) pa (prt h fun i => InR Bs bn i ∧ i ≠ Bs x) p := ⟨hnb, hnl, fun i j i0 i1 j0 j1 => by
      by_cases q : InR Bs bn i ∧ i ≠ Bs x
      ·rw [prt_in q]; exact hM.v i j i0 i1 j0 j1
      ·rw [prt_out q]; unfold W9; omega, hM.pr, hPT, hO3.iatU hM.q⟩
     refine run_exit rfl <| run_seq <| run_region <| rl_v rfl rfl rfl (ov_move rfl rfl) <| rl_v rfl rfl rfl (ov_move rfl rfl) ?_
     refine rl_call callable_76 rfl rfl rfl rfl rfl rfl (crowdH_any (some ⟨ob, 0, none⟩) pa h.nb pc (prt h fun i => InR Bs bn i ∧ i ≠ Bs x) p _ hM') (fun e30 w31 hp32 => ?_)
     obtain ⟨b2, bn2, bc2, Bs2, l2, ln2, lc2, Ls2, cb2, cl2, rfl, hvb2, hvl2, hOb, hcase2⟩ := hp32
     refine ⟨_, rfl, ?_⟩
     have hO33 := hO3.join hOb
     refine rl_v rfl rfl rfl (ov_move rfl rfl) <| rl_v rfl rfl rfl (ov_extract rfl rfl (by rfl)) ?_
     refine rl_v rfl rfl rfl (ov_extract rfl rfl (by rfl)) ?_
     refine rl_v rfl rfl rfl (ov_assign rfl rfl) <| rl_v rfl rfl rfl (ov_assign rfl rfl) <| rl_nil <| run_seq <| run_region <| rl_v rfl rfl rfl (ov_move rfl rfl) <| rl_v rfl rfl rfl (ov_nonil rfl Tryz.underlying30 rfl) <| rl_nil ?_
     first | refine run_cond_dec rfl (fun c4 => ?_) (fun c4 => ?_) | refine run_cond rfl (fun c4 => ?_) (fun c4 => ?_)
     ·have hC2 : CrF (prt h fun i => InR Bs bn i ∧ i ≠ Bs x) p bn2 Bs2 ln2 Ls2 := by
       rcases hcase2 with ⟨q1, _⟩ | q
       ·rw [q1] at c4; exact Bool.noConfusion c4
       ·exact q
      have hC3 := crf_prt hp0 (x := x) (by omega) c2 hC2
      refine run_seq <| run_region <| rl_v rfl rfl rfl (ov_move rfl rfl) <| rl_v rfl rfl rfl (ov_move rfl rfl) <| rl_v rfl rfl rfl (ov_assign rfl rfl) <| rl_v rfl rfl rfl (ov_assign rfl rfl) <| rl_v rfl rfl rfl (ov_assign rfl rfl) <| rl_nil <| run_exit rfl ?_
      refine Run.use (hk8 (true) (.slice b2 bn2 bc2) (.slice l2 ln2 lc2) (bn2) _ ?_) (And.intro (by rfl) (And.intro rfl (And.intro rfl (And.intro rfl (And.intro rfl trivial)))))
      exact ⟨⟨Bs2, ln2, Ls2, cb2, cl2, hvb2, hvl2, .inr ⟨hC3.1, fun q => Bool.noConfusion q⟩, hO33.sub (.cons_cons _ (.cons_cons _ (List.nil_sublist _)))⟩, fun _ => hC3.2⟩
     ·have hN2 : NoC (prt h fun i => InR Bs bn i ∧ i ≠ Bs x) p := by
       rcases hcase2 with ⟨_, _, q⟩ | q
       ·exact q
       ·obtain ⟨b, hb⟩ := IRow.addr hvb2
        have := q.n
        rw [hb (by omega)] at c4
        exact Bool.noConfusion c4
      have hno2 : 0 < x + 1 → NoC (prt h fun i => InR Bs bn i ∧ i ≠ Bs 0) p := fun _ => by
       by_cases z : x = 0
       ·rw [z] at hN2; exact hN2
       ·exact hno (by omega)
      refine run_skip <| run_inBlock <| run_region <| rl_v rfl rfl rfl (ov_add rfl rfl rfl (by omega)) ?_
      refine rl_v rfl rfl rfl (ov_move rfl rfl) <| rl_nil ?_
      refine Run.use (ih10 (x + 1) _ ?_ ?_) (And.intro (by exact slot_int rfl (by first | omega)) (And.intro (by rfl) (And.intro rfl (And.intro rfl (And.intro rfl (And.intro rfl (And.intro rfl (And.intro rfl trivial))))))))
      ·first | omega | (dsimp only; omega)
      ·exact ⟨by omega, hno2, hO33.sub (.cons _ (.cons _ (.cons _ (List.sublist_append_right _ _))))⟩
   ·have hg := gvn_of hC (hno (by omega))
    refine run_exit rfl ?_
    refine Run.use (hk8 (false) (.slice ba bn bc) (vl) (bn) _ ?_) (And.intro (by rfl) (And.intro rfl (And.intro rfl (And.intro rfl (And.intro rfl trivial)))))
    exact ⟨⟨Bs, ln, Ls, cb, cl, hvb, hvl, .inr ⟨hC, fun _ => hg⟩, hO2⟩, fun q => Bool.noConfusion q⟩
  ·intro sh2 vb2 vl2 bn2 w7 hJw7
   obtain ⟨hI2, hlt⟩ := hJw7
   show Run _ _ _ _ [(6, _), (4, _), (5, _), (0, _), (1, _)] _ _
   refine run_inBlock ?_
   refine Run.use (ih6 (sh2) (vb2) (vl2) (bn2) _ ?_ ?_) (And.intro (by rfl) (And.intro rfl (And.intro rfl (And.intro rfl (And.intro rfl trivial)))))
   ·(rw [c1]; cases sh2 with | false => exact Nat.succ_pos _ | true => have := hlt rfl; show 2 * bn2 + 1 < 2 * bn + 1; omega)
   ·exact hI2
 ·have hsf : sh = false := c1
  refine run_exit rfl <| run_seq <| run_region <| rl_v rfl rfl rfl (ov_move rfl rfl) <| rl_v rfl rfl rfl (ov_move rfl rfl) <| rl_v rfl rfl rfl (ov_assign rfl rfl) <| rl_v rfl rfl rfl (ov_assign rfl rfl) <| rl_nil <| run_ret Tryz.func49 (res2 Tryz.results49 rfl rfl) ?_
  exact ⟨.slice ba bn bc, vl, bn, rfl, Bs, ln, Ls, cb, cl, hvb, hvl, by rw [hsf] at hcs; exact hcs, hO1⟩
end Go.Proofs.YtbcjfjldmfljgaaGreat
