import Derived.Test.YtlldeifbfpmbaaaFkD
import Derived.Test.YtlldeifbfpmbaaaFiD
import Derived.Test.YtlldeifbfpmbaaaFcG
set_option maxRecDepth 100000
namespace Go.Proofs.Ytlldeifbfpmbaaa
open Go.RowKit Go.Proofs Go.MapKept
abbrev W0 (n : Nat) : Wish := ⟨n, fun _ => 0, fun _ _ => 0⟩
theorem RO.pre {n : Nat} {s : Int → Bool} {o : Int → Int} {nr : Nat} {L : Int → Nat} {R : Int → Int → Int} (h : RO (W0 n) s o nr L R) (ho : ∀ i : Int, 0 ≤ i → i < n → 0 ≤ o i ∧ o i < n) (hi : ∀ i j : Int, 0 ≤ i → i < n → 0 ≤ j → j < n → o i = o j → i = j) {x : Int} (x0 : 0 ≤ x) (x1 : x < n) (hs : s (o x) = true) : s x = true := by
 have hx := ho x x0 x1
 obtain ⟨r, k, hr, hk, e⟩ := h.cov (o x) hx.1 hx.2 hs
 have hp := h.pos r hr.1 hr.2
 obtain ⟨q, hq, hqk⟩ : ∃ q : Int, (0 ≤ q ∧ q < L r) ∧ Wish.nxt (L r) q = k := by
  by_cases c : k = 0
  ·exact ⟨L r - 1, by omega, by unfold Wish.nxt; rw [if_pos (by omega)]; omega⟩
  ·exact ⟨k - 1, by omega, by unfold Wish.nxt; rw [if_neg (by omega)]; omega⟩
 have c1 := h.cyc r q hr.1 hr.2 hq.1 hq.2
 rw [hqk, e] at c1
 have hR := h.rng r q hr.1 hr.2 hq.1 hq.2
 rw [← hi _ x hR.1.1 hR.1.2 x0 x1 c1]
 exact hR.2
theorem RO.orbit {n : Nat} {s : Int → Bool} {o : Int → Int} {nr : Nat} {L : Int → Nat} {R : Int → Int → Int} (h : RO (W0 n) s o nr L R) (ho : ∀ i : Int, 0 ≤ i → i < n → 0 ≤ o i ∧ o i < n) (hi : ∀ i j : Int, 0 ≤ i → i < n → 0 ≤ j → j < n → o i = o j → i = j) {x : Int} (x0 : 0 ≤ x) (x1 : x < n) (hs : s x = false) : ∀ j : Nat, (0 ≤ itr o x j ∧ itr o x j < n) ∧ s (itr o x j) = false
 | 0 => ⟨⟨x0, x1⟩, hs⟩
 | j + 1 => by
  obtain ⟨h1, h2⟩ := h.orbit ho hi x0 x1 hs j
  refine ⟨ho _ h1.1 h1.2, ?_⟩
  cases e : s (itr o x (j + 1))
  ·rfl
  ·have := h.pre ho hi h1.1 h1.2 e
   rw [h2] at this
   exact Bool.noConfusion this
theorem orbit_zero {n : Nat} {o : Int → Int} (hi : ∀ i j : Int, 0 ≤ i → i < n → 0 ≤ j → j < n → o i = o j → i = j) {x : Int} (hr : ∀ j : Nat, 0 ≤ itr o x j ∧ itr o x j < n) {a J : Nat} (haJ : a < J) (h : itr o x J = itr o x a) (hdis : ∀ a b : Nat, a < J → b < J → itr o x a = itr o x b → a = b) : a = 0 := by
 cases a with
 | zero => rfl
 | succ a =>
  obtain ⟨K, rfl⟩ : ∃ K, J = K + 1 := ⟨J - 1, by omega⟩
  have e : itr o x K = itr o x a := hi _ _ (hr K).1 (hr K).2 (hr a).1 (hr a).2 h
  have := hdis K a (by omega) (by omega) e
  omega
set_option maxHeartbeats 4000000 in
theorem refRings_any (la : Option Addr) (n lc : Nat) (o : Int → Int) (w : World) (hn : n ≤ 64) (ho : ∀ i : Int, 0 ≤ i → i < n → 0 ≤ o i ∧ o i < n) (hi : ∀ i j : Int, 0 ≤ i → i < n → 0 ≤ j → j < n → o i = o j → i = j) (hl : IAt w.heap.size w la n (fun i => iv (o i))) :
  Calls Try.prog 39 #[.slice la n lc] w fun e w' => ∃ (va : Option Addr) (vc nr : Nat) (L : Int → Nat) (R : Int → Int → Int) (s : Int → Bool) (H : List (Option Blk)), e = .returned (.slice va nr vc) ∧ OTab (.slice va nr vc) 23 3 nr L (fun r k => iv (R r k)) H ∧ Own w.heap.size w w' H ∧ RO (W0 n) s o nr L R ∧ (∀ x : Int, 0 ≤ x → x < n → s x = true) ∧ Rise nr R := by
 obtain ⟨lb, lo, hla, hlrow⟩ := hl.open
 refine calls_of_run (F := [(0, _)]) Try.func39 rfl Try.ntmps39 rfl rfl ?_
 have hO0 := Own.init w
 refine run_seq <| run_region <| rl_v rfl rfl rfl (ov_assign rfl rfl) <| rl_nil <| run_seq <| run_region <| rl_v rfl rfl rfl (ov_move rfl rfl) <| rl_v rfl rfl rfl (ov_len rfl Try.underlying23 rfl) ?_
 refine rl_make (n) rfl rfl rfl rfl Try.underlying92 info_4 rfl hO0 rfl rfl (by rfl) (by rfl) ⟨by omega, by omega⟩ (fun sb w1 hO2 hs3 => ?_)
 refine rl_v rfl rfl rfl (ov_assign rfl rfl) <| rl_nil <| run_seq <| run_region <| rl_v rfl rfl rfl (ov_assign rfl rfl) <| rl_nil <| run_seq <| run_seq <| run_region <| rl_v rfl rfl rfl (ov_assign rfl rfl) <| rl_nil <| run_block <| Run.keep [0, 3, 4, 5] (F' := [(0, _), (3, _), (4, _), (5, _)]) rfl <| run_loop4 (fun (i : Int) (nr : Nat) (va : Option Addr) (vc : Nat) => [(5, .int .i64 i), (4, .slice va nr vc)]) [0, 3] (fun (i : Int) (nr : Nat) (va : Option Addr) (vc : Nat) (w4 : World) => 0 ≤ i ∧ i ≤ n ∧ ∃ (s : Int → Bool) (L : Int → Nat) (R : Int → Int → Int) (H : List (Option Blk)), OTab (.slice va nr vc) 23 3 nr L (fun r k => iv (R r k)) H ∧ RO (W0 n) s o nr L R ∧ (∀ j : Int, 0 ≤ j → j < i → s j = true) ∧ Rise nr R ∧ (∀ r : Int, 0 ≤ r → r < nr → R r 0 < i) ∧ Own w.heap.size w w4 (some (vch sb 4 n (fun x => .bool (s x))) :: H)) (fun (i : Int) (nr : Nat) (va : Option Addr) (vc : Nat) => ((n : Int) - i).toNat) (0) (0) (none) (0) ?_ (And.intro (by exact slot_int rfl (by first | omega)) (And.intro rfl (And.intro rfl (And.intro rfl trivial)))) ?_
 ·exact ⟨by omega, by omega, fun _ => false, fun _ => 0, fun _ _ => 0, [none], OTab.nil _ _ _ _, RO.init _ _ _ _, fun j j0 j1 => by omega, fun r s r0 h1 h2 => by omega, fun r r0 r1 => by omega, hO2.nil_cons.swap⟩
 intro i nr va vc w4 hIw4 ih5
 obtain ⟨hi0, hi1, s, L, R, H, hTb, hRO, hsi, hrise, hlt, hO⟩ := hIw4
 show Run _ _ _ _ [(5, _), (4, _), (0, _), (3, _)] _ _
 refine run_seq <| run_seq <| run_region <| rl_v rfl rfl rfl (ov_move rfl rfl) <| rl_v rfl rfl rfl (ov_move rfl rfl) <| rl_v rfl rfl rfl (ov_len rfl Try.underlying23 rfl) <| rl_v rfl rfl rfl (ov_lss rfl rfl rfl) <| rl_nil ?_
 first | refine run_cond_dec rfl (fun h1 => ?_) (fun h1 => ?_) | refine run_cond rfl (fun h1 => ?_) (fun h1 => ?_)
 ·refine run_skip <| run_seq <| run_block <| run_seq <| run_seq <| run_region <| rl_v rfl rfl rfl (ov_move rfl rfl) <| rl_v rfl rfl rfl (ov_move rfl rfl) <| rl_v rfl rfl rfl (ov_index1 rfl Try.underlying92 (by kernel_rfl) rfl rfl ⟨by omega, by omega⟩ (by rfl)) ?_
  refine rl_v rfl rfl rfl (ov_load rfl Try.underlying4 rfl rfl (by exact hO.cellI 0 rfl _ (by omega) (by omega))) ?_
  refine rl_nil ?_
  first | refine run_cond_dec rfl (fun h2 => ?_) (fun h2 => ?_) | refine run_cond rfl (fun h2 => ?_) (fun h2 => ?_)
  ·refine run_exit rfl <| run_region <| rl_v rfl rfl rfl (ov_move rfl rfl) <| rl_v rfl rfl rfl (ov_add rfl rfl rfl (by omega)) ?_
   refine rl_v rfl rfl rfl (ov_assign rfl rfl) <| rl_nil ?_
   refine Run.use (ih5 (i + 1) (nr) (va) (vc) _ ?_ ?_) (And.intro (by exact slot_int rfl (by first | omega)) (And.intro rfl (And.intro rfl (And.intro rfl trivial))))
   ·first | omega | (dsimp only; omega)
   ·exact ⟨by omega, by omega, s, L, R, H, hTb, hRO, fun j j0 j1 => by by_cases e : j = i; (rw [e]; exact h2); (exact hsi j j0 (by omega)), hrise, fun r r0 r1 => by have := hlt r r0 r1; omega, hO⟩
  ·have hsf : s i = false := by cases e : s i; rfl; rw [e] at h2; exact Bool.noConfusion h2
   have horb := hRO.orbit ho hi hi0 h1 hsf
   have hge : ∀ j : Nat, i ≤ itr o i j := fun j => Classical.byContradiction fun hlt => by
    have h3 := hsi (itr o i j) (horb j).1.1 (by omega)
    rw [(horb j).2] at h3
    exact Bool.noConfusion h3
   refine run_skip <| run_seq <| run_region <| rl_v rfl rfl rfl (ov_assign rfl rfl) <| rl_nil <| run_seq <| run_seq <| run_region <| rl_v rfl rfl rfl (ov_move rfl rfl) <| rl_v rfl rfl rfl (ov_assign rfl rfl) <| rl_nil <| run_block <| Run.keep [0, 3, 4, 5, 6, 7] (F' := [(0, _), (3, _), (4, _), (5, _), (6, _), (7, _)]) rfl <| run_loop3 (fun (J : Nat) (ra : Option Addr) (rc : Nat) => [(7, .int .i64 (itr o i J)), (6, .slice ra J rc)]) [0, 3, 4, 5] (fun (J : Nat) (ra : Option Addr) (rc : Nat) (w6 : World) => J ≤ n ∧ ∃ (s2 : Int → Bool) (c2 : Option Blk), (∀ x : Int, 0 ≤ x → x < n → (s2 x = true ↔ s x = true ∨ ∃ j : Int, 0 ≤ j ∧ j < J ∧ itr o i j.toNat = x)) ∧ (∀ a b : Nat, a < J → b < J → itr o i a = itr o i b → a = b) ∧ IRow (.slice ra J rc) 3 J (fun j => iv (itr o i j.toNat)) c2 ∧ Own w.heap.size w w6 (c2 :: some (vch sb 4 n (fun x => .bool (s2 x))) :: H)) (fun (J : Nat) (ra : Option Addr) (rc : Nat) => n - J) (0) (none) (0) ?_ (And.intro (by rfl) (And.intro rfl (And.intro rfl (And.intro rfl (And.intro rfl (And.intro rfl trivial)))))) ?_
   ·exact ⟨by omega, s, none, fun x x0 x1 => ⟨.inl, fun h => h.elim id fun ⟨j, j0, j1, _⟩ => by omega⟩, fun a b h => by omega, IRow.nil _ _, hO.nil_cons⟩
   intro J ra rc w6 hIw6 ih7
   obtain ⟨hJ, s2, c2, hs2, hdis, hrw, hO⟩ := hIw6
   show Run _ _ _ _ [(7, _), (6, _), (0, _), (3, _), (4, _), (5, _)] _ _
   have hJr := (horb J).1
   refine run_seq <| run_seq <| run_region <| rl_v rfl rfl rfl (ov_move rfl rfl) <| rl_v rfl rfl rfl (ov_move rfl rfl) <| rl_v rfl rfl rfl (ov_index1 rfl Try.underlying92 (by kernel_rfl) rfl rfl ⟨by omega, by omega⟩ (by rfl)) ?_
   refine rl_v rfl rfl rfl (ov_load rfl Try.underlying4 rfl rfl (by exact hO.cellI 1 rfl _ (by omega) (by omega))) ?_
   refine rl_v rfl rfl rfl (ov_not rfl rfl) <| rl_nil ?_
   first | refine run_cond_dec rfl (fun h3 => ?_) (fun h3 => ?_) | refine run_cond rfl (fun h3 => ?_) (fun h3 => ?_)
   ·have hs2f : ¬ s2 (itr o i J) = true := fun h => by rw [h] at h3; exact Bool.noConfusion h3
    have hnew : ∀ j : Nat, j < J → itr o i j ≠ itr o i J := fun j hj e => hs2f ((hs2 _ hJr.1 hJr.2).2 (.inr ⟨j, by omega, by omega, e⟩))
    have hdis2 : ∀ a b : Nat, a < J + 1 → b < J + 1 → itr o i a = itr o i b → a = b := fun a b ha hb e => by
     by_cases c : a = J <;> by_cases d : b = J
     ·omega
     ·rw [c] at e; exact absurd e.symm (hnew b (by omega))
     ·rw [d] at e; exact absurd e (hnew a (by omega))
     ·exact hdis a b (by omega) (by omega) e
    have hJ1 : J + 1 ≤ n := pigeon (n := J + 1) (m := n) (e := fun k => itr o i k.toNat) (fun k _ _ => (horb k.toNat).1) fun a b a0 a1 b0 b1 e => by have := hdis2 a.toNat b.toNat (by omega) (by omega) e; omega
    refine run_skip <| run_seq <| run_block <| run_seq <| run_region <| rl_v rfl rfl rfl (ov_move rfl rfl) <| rl_v rfl rfl rfl (ov_move rfl rfl) <| rl_v rfl rfl rfl (ov_index1 rfl Try.underlying92 (by kernel_rfl) rfl rfl ⟨by omega, by omega⟩ (by rfl)) ?_
    refine rl_ow rfl (ow_store rfl rfl (by kernel_rfl) hO 1 rfl rfl ⟨by omega, by omega⟩ rfl rfl) ?_
    rintro _ w8 ⟨rfl, hO9, hs10⟩
    refine rl_nil <| run_region <| rl_v rfl rfl rfl (ov_move rfl rfl) <| rl_v rfl rfl rfl (ov_move rfl rfl) ?_
    refine rl_appI rfl rfl rfl rfl rfl rfl rfl rfl Try.underlying23 info_3 rfl hO9 0 hrw rfl rfl rfl ⟨by omega, by omega⟩ (fun v37 c37 w11 hO12 hr37 hs13 => ?_)
    obtain ⟨a37, cp37, rfl⟩ := Row.val hr37
    have hOc : Own w.heap.size w w11 (c37 :: some (vch sb 4 n (fun x => .bool (upd s2 (itr o i J) true x))) :: H) := hO12.congrI 1 rfl fun x x0 x1 => by unfold upd; split <;> rfl
    have hs3 : ∀ x : Int, 0 ≤ x → x < n → (upd s2 (itr o i J) true x = true ↔ s x = true ∨ ∃ j : Int, 0 ≤ j ∧ j < ((J + 1 : Nat) : Int) ∧ itr o i j.toNat = x) := fun x x0 x1 => by
     by_cases c : x = itr o i J
     ·rw [c, upd_same]; exact ⟨fun _ => .inr ⟨J, by omega, by omega, rfl⟩, fun _ => rfl⟩
     ·rw [upd_ne _ _ c, hs2 x x0 x1]
      exact ⟨fun h => h.imp id fun ⟨j, j0, j1, e⟩ => ⟨j, j0, by omega, e⟩, fun h => h.imp id fun ⟨j, j0, j1, e⟩ => ⟨j, j0, by
       by_cases d : j = J
       ·rw [d] at e; exact absurd e.symm c
       ·omega, e⟩⟩
    refine rl_v rfl rfl rfl (ov_assign rfl rfl) <| rl_nil <| run_inBlock <| run_region <| rl_v rfl rfl rfl (ov_move rfl rfl) <| rl_v rfl rfl rfl (ov_move rfl rfl) <| rl_v rfl rfl rfl (ov_index1 rfl Try.underlying23 (by kernel_rfl) rfl rfl ⟨by omega, by omega⟩ (by exact hla (by omega))) ?_
    refine rl_v rfl rfl rfl (ov_load rfl Try.underlying3 rfl rfl (by exact hlrow _ hOc.below _ (by omega) (by omega))) ?_
    refine rl_v rfl rfl rfl (ov_assign rfl rfl) <| rl_nil ?_
    refine Run.use (ih7 (J + 1) (a37) (cp37) _ ?_ ?_) (And.intro (by rfl) (And.intro rfl (And.intro rfl (And.intro rfl (And.intro rfl (And.intro rfl trivial))))))
    ·first | omega | (dsimp only; omega)
    ·exact ⟨hJ1, _, c37, hs3, hdis2, hr37.congr (fun j j0 j1 => by by_cases e : j = J; (rw [e]; unfold upd; rw [if_pos rfl]; rfl); (unfold upd; rw [if_neg e])), hOc⟩
   ·have hs2t : s2 (itr o i J) = true := by cases e : s2 (itr o i J); rw [e] at h3; exact Bool.noConfusion h3; rfl
    have hex : ∃ a : Nat, a < J ∧ itr o i J = itr o i a := by
     rcases (hs2 _ hJr.1 hJr.2).1 hs2t with h | ⟨j, j0, j1, e⟩
     ·rw [(horb J).2] at h; exact Bool.noConfusion h
     ·exact ⟨j.toNat, by omega, e.symm⟩
    obtain ⟨a, haJ, hJa⟩ := hex
    have ha0 := orbit_zero hi (fun j => (horb j).1) haJ hJa hdis
    have hJx : itr o i J = i := by rw [hJa, ha0]; rfl
    have hcyc : ∀ k : Int, 0 ≤ k → k < J → o (itr o i k.toNat) = itr o i (Wish.nxt J k).toNat := fun k k0 k1 => by
     show itr o i (k.toNat + 1) = _
     unfold Wish.nxt
     split
     ·rw [show k.toNat + 1 = J by omega, hJx]; rfl
     ·rw [show (k + 1).toNat = k.toNat + 1 by omega]
    have hRO2 := hRO.addO (gone' := s2) (m := J) (x := fun k => itr o i k.toNat) (by omega) (fun k k0 k1 => horb k.toNat) (fun a b a0 a1 b0 b1 e => by have := hdis a.toNat b.toNat (by omega) (by omega) e; omega) hcyc (fun k k0 k1 => hge k.toNat) hs2
    have hshort : nr + 1 ≤ n := hRO2.short
    obtain ⟨co, rv, ch, rfl, hv, h3t⟩ := hTb
    refine run_exit rfl <| run_region <| rl_v rfl rfl rfl (ov_move rfl rfl) <| rl_v rfl rfl rfl (ov_move rfl rfl) ?_
    refine rl_appV rfl rfl rfl rfl rfl rfl rfl rfl Try.underlying22 info_23 rfl hO 2 hv rfl rfl rfl rfl ⟨by omega, by omega⟩ (fun v41 c41 w14 hO15 hv41 hs16 => ?_)
    obtain ⟨a41, cp41, rfl⟩ := Row.val hv41
    have hO5 : Own w.heap.size w w14 (c2 :: c41 :: ((List.range nr).map ch ++ [some (vch sb 4 n (fun x => .bool (s2 x)))])) := hO15.perm (.cons _ (List.perm_append_comm (l₁ := [some (vch sb 4 n (fun x => .bool (s2 x)))]) (l₂ := c41 :: (List.range nr).map ch)))
    obtain ⟨H', hT', hO8⟩ := OTab.snoc (L := updN L nr J) (F := fun r k => iv (updR R nr (fun k => itr o i k.toNat) r k)) (rv := rv) (ch := ch) (fun r hr => by
     have e1 : updN L nr J r = L r := if_neg (by omega)
     have e2 : updR R nr (fun k => itr o i k.toNat) r = R r := if_neg (by omega)
     rw [e1]
     simp only [e2]
     exact h3t r hr) hrw hv41 hO5 (if_pos rfl) (fun j _ _ => congrArg iv (show updR R nr (fun k => itr o i k.toNat) nr j = _ from by unfold updR; rw [if_pos rfl]))
    have hlt2 : ∀ r : Int, 0 ≤ r → r < ((nr + 1 : Nat) : Int) → updR R nr (fun k => itr o i k.toNat) r 0 < i + 1 := fun r r0 r1 => by
     unfold updR
     by_cases c : r = nr
     ·rw [if_pos c]; show i < i + 1; omega
     ·rw [if_neg c]; have := hlt r r0 (by omega); omega
    have hrise2 : Rise (nr + 1) (updR R nr (fun k => itr o i k.toNat)) := fun r t r0 hrt ht => by
     unfold updR
     by_cases c : t = nr
     ·rw [if_pos c, if_neg (by omega)]
      have := hlt r r0 (by omega)
      show R r 0 < i
      exact this
     ·rw [if_neg c, if_neg (by omega)]; exact hrise r t r0 hrt (by omega)
    have hsi2 : ∀ j : Int, 0 ≤ j → j < i + 1 → s2 j = true := fun j j0 j1 => by
     by_cases c : j = i
     ·rw [c]; exact (hs2 i hi0 h1).2 (.inr ⟨0, Int.le_refl _, by omega, rfl⟩)
     ·exact (hs2 j j0 (by omega)).2 (.inl (hsi j j0 (by omega)))
    refine rl_v rfl rfl rfl (ov_assign rfl rfl) <| rl_nil <| run_inBlock <| run_region <| rl_v rfl rfl rfl (ov_move rfl rfl) <| rl_v rfl rfl rfl (ov_add rfl rfl rfl (by omega)) ?_
    refine rl_v rfl rfl rfl (ov_assign rfl rfl) <| rl_nil ?_
    refine Run.use (ih5 (i + 1) (nr + 1) (a41) (cp41) _ ?_ ?_) (And.intro (by exact slot_int rfl (by first | omega)) (And.intro rfl (And.intro rfl (And.intro rfl trivial))))
    ·first | omega | (dsimp only; omega)
    ·exact ⟨by omega, by omega, s2, _, _, H', hT', hRO2, hsi2, hrise2, hlt2, hO8.perm List.perm_append_comm⟩
 ·refine run_exit rfl <| run_seq <| run_region <| rl_v rfl rfl rfl (ov_move rfl rfl) <| rl_v rfl rfl rfl (ov_assign rfl rfl) <| rl_nil <| run_ret Try.func39 (res1 Try.results39 rfl) ?_
  exact ⟨va, vc, nr, L, R, s, H, rfl, hTb, hO.tail, hRO, fun x x0 x1 => hsi x x0 (by omega), hrise⟩
section
variable (ga la : Option Addr) (n gc ln lc : Nat) (L : Int → Nat) (E : Int → Int → Int) (w : World) (hL : ∀ r : Int, 0 ≤ r → r < n → L r ≤ 1000000) (hn : n ≤ 1000000) (h : RTab w.heap.size w ga n L E)
include hL hn h
theorem coreBad_any (hE : chkS n L E ≠ 0) : Calls Try.prog 26 #[.agg #[.slice ga n gc]] w fun e w' => e = .returned (.tuple #[.slice none 0 0, iv (chkS n L E)]) ∧ Below w.heap.size w w' := by
 refine calls_of_run (F := [(0, _)]) Try.func26 rfl Try.ntmps26 rfl rfl ?_
 have hO0 := Own.init w
 refine run_seq <| run_region <| rl_ow rfl (ow_box _ rfl rfl rfl rfl rfl hO0) ?_
 rintro _ w1 ⟨b1, rfl, hO2, hs3⟩
 refine rl_v rfl rfl rfl (ov_assign rfl rfl) <| rl_v rfl rfl rfl (ov_assign rfl rfl) <| rl_nil <| run_seq <| run_seq <| run_region <| rl_v rfl rfl rfl (ov_loadW rfl Try.underlying49 rfl (by kernel_rfl) rfl hO2 0 rfl) ?_
 refine rl_call callable_36 rfl rfl rfl rfl rfl rfl (checkSwap_any ga n gc L E _ hn hL (hO2.rtab h).tab) (fun e4 w5 hp6 => ?_)
 obtain ⟨rfl, hbl⟩ := hp6
 refine ⟨_, rfl, ?_⟩
 have hO7 := hO2.past hbl
 refine rl_v rfl rfl rfl (ov_assign rfl rfl) <| rl_nil <| run_seq <| run_region <| rl_v rfl rfl rfl (ov_move rfl rfl) <| rl_v rfl rfl rfl (ov_neq rfl rfl rfl) <| rl_nil ?_
 first | refine run_cond_dec rfl (fun h1 => ?_) (fun h1 => ?_) | refine run_cond rfl (fun h1 => ?_) (fun h1 => ?_)
 ·refine run_seq <| run_region <| rl_v rfl rfl rfl (ov_move rfl rfl) <| rl_v rfl rfl rfl (ov_assign rfl rfl) <| rl_v rfl rfl rfl (ov_assign rfl rfl) <| rl_nil <| run_ret Try.func26 (res2 Try.results26 rfl rfl) ?_
  exact ⟨rfl, hO7.below⟩
 ·exfalso; exact h1 hE
theorem ringsBad_any (hE : chkS n L E ≠ 0) : Calls Try.prog 37 #[.agg #[.slice ga n gc]] w fun e w' => e = .returned (.tuple #[.slice none 0 0, iv (chkS n L E)]) ∧ Below w.heap.size w w' := by
 refine calls_of_run (F := [(0, _)]) Try.func37 rfl Try.ntmps37 rfl rfl ?_
 have hO0 := Own.init w
 refine run_seq <| run_region <| rl_ow rfl (ow_box _ rfl rfl rfl rfl rfl hO0) ?_
 rintro _ w1 ⟨b1, rfl, hO2, hs3⟩
 refine rl_v rfl rfl rfl (ov_assign rfl rfl) <| rl_v rfl rfl rfl (ov_assign rfl rfl) <| rl_nil <| run_seq <| run_seq <| run_region <| rl_v rfl rfl rfl (ov_loadW rfl Try.underlying49 rfl (by kernel_rfl) rfl hO2 0 rfl) ?_
 refine rl_call callable_36 rfl rfl rfl rfl rfl rfl (checkSwap_any ga n gc L E _ hn hL (hO2.rtab h).tab) (fun e4 w5 hp6 => ?_)
 obtain ⟨rfl, hbl⟩ := hp6
 refine ⟨_, rfl, ?_⟩
 have hO7 := hO2.past hbl
 refine rl_v rfl rfl rfl (ov_assign rfl rfl) <| rl_nil <| run_seq <| run_region <| rl_v rfl rfl rfl (ov_move rfl rfl) <| rl_v rfl rfl rfl (ov_neq rfl rfl rfl) <| rl_nil ?_
 first | refine run_cond_dec rfl (fun h1 => ?_) (fun h1 => ?_) | refine run_cond rfl (fun h1 => ?_) (fun h1 => ?_)
 ·refine run_seq <| run_region <| rl_v rfl rfl rfl (ov_move rfl rfl) <| rl_v rfl rfl rfl (ov_assign rfl rfl) <| rl_v rfl rfl rfl (ov_assign rfl rfl) <| rl_nil <| run_ret Try.func37 (res2 Try.results37 rfl rfl) ?_
  exact ⟨rfl, hO7.below⟩
 ·exfalso; exact h1 hE
theorem betterBad_any (hE : chkS n L E ≠ 0) : Calls Try.prog 27 #[.agg #[.slice ga n gc], .slice la ln lc] w fun e w' => e = .returned (.tuple #[.slice none 0 0, .bool false]) ∧ Below w.heap.size w w' := by
 refine calls_of_run (F := [(0, _), (1, _)]) Try.func27 rfl Try.ntmps27 rfl rfl ?_
 have hO0 := Own.init w
 refine run_seq <| run_region <| rl_ow rfl (ow_box _ rfl rfl rfl rfl rfl hO0) ?_
 rintro _ w1 ⟨b1, rfl, hO2, hs3⟩
 refine rl_v rfl rfl rfl (ov_assign rfl rfl) <| rl_v rfl rfl rfl (ov_assign rfl rfl) <| rl_nil <| run_seq <| run_region <| rl_v rfl rfl rfl (ov_fieldS rfl Try.underlying49 rfl (fo := 0) rfl (by kernel_rfl) rfl) ?_
 refine rl_v rfl rfl rfl (ov_load rfl Try.underlying22 rfl rfl (by exact hO2.cellL 0 rfl (off := 0) rfl)) ?_
 refine rl_v rfl rfl rfl (ov_len rfl Try.underlying22 rfl) <| rl_v rfl rfl rfl (ov_assign rfl rfl) <| rl_nil <| run_seq <| run_seq <| run_region <| rl_v rfl rfl rfl (ov_loadW rfl Try.underlying49 rfl (by kernel_rfl) rfl hO2 0 rfl) ?_
 refine rl_call callable_36 rfl rfl rfl rfl rfl rfl (checkSwap_any ga n gc L E _ hn hL (hO2.rtab h).tab) (fun e4 w5 hp6 => ?_)
 obtain ⟨rfl, hbl⟩ := hp6
 refine ⟨_, rfl, ?_⟩
 have hO7 := hO2.past hbl
 refine rl_v rfl rfl rfl (ov_neq rfl rfl rfl) <| rl_v rfl rfl rfl (ov_move rfl rfl) ?_
 first | refine rl_yesD 21 rfl (hE) ?_ | refine rl_yes 21 rfl (hE) ?_
 refine rl_gskip rfl rfl rfl rfl rfl rfl <| rl_gskip rfl rfl rfl rfl rfl rfl <| rl_gskip rfl rfl rfl rfl rfl rfl <| rl_gskip rfl rfl rfl rfl rfl rfl <| rl_v rfl rfl rfl (ov_pick_t rfl rfl rfl) <| rl_v rfl rfl rfl (ov_move rfl rfl) <| rl_gskip rfl rfl rfl rfl rfl rfl <| rl_gskip rfl rfl rfl rfl rfl rfl <| rl_v rfl rfl rfl (ov_pick_t rfl rfl rfl) <| rl_v rfl rfl rfl (ov_move rfl rfl) <| rl_gskip rfl rfl rfl rfl rfl rfl <| rl_gskip rfl rfl rfl rfl rfl rfl <| rl_gskip rfl rfl rfl rfl rfl rfl <| rl_gskip rfl rfl rfl rfl rfl rfl <| rl_v rfl rfl rfl (ov_pick_t rfl rfl rfl) <| rl_nil <| run_cond_t rfl <| run_seq <| run_region <| rl_v rfl rfl rfl (ov_assign rfl rfl) <| rl_v rfl rfl rfl (ov_assign rfl rfl) <| rl_nil <| run_ret Try.func27 (res2 Try.results27 rfl rfl) ?_
 exact ⟨rfl, hO7.below⟩
end
set_option maxHeartbeats 1000000 in
theorem ringsP_any (ga : Option Addr) (n gc : Nat) (L : Int → Nat) (E : Int → Int → Int) (w : World) (hn : n ≤ 64) (hv : SwapOk n L E) (h : RTab w.heap.size w ga n L E) :
  Calls Try.prog 37 #[.agg #[.slice ga n gc]] w fun e w' => ∃ (oa : Option Addr) (nr ocap : Nat) (Lr : Int → Nat) (R : Int → Int → Int) (o t : Int → Int) (H : List (Option Blk)), e = .returned (.tuple #[.slice oa nr ocap, iv 0]) ∧ Own w.heap.size w w' H ∧ ROwn H oa nr Lr R ∧ (wishOf n L E).Cert o t ∧ RO (wishOf n L E) (fun _ => true) o nr Lr R ∧ Rise nr R := by
 have hL : ∀ i : Int, 0 ≤ i → i < n → L i ≤ n := fun i i0 i1 => pigeon (hv i i0 i1).1 (hv i i0 i1).2
 refine calls_of_run (F := [(0, _)]) Try.func37 rfl Try.ntmps37 rfl rfl ?_
 have hO0 := Own.init w
 refine run_seq <| run_region <| rl_ow rfl (ow_box _ rfl rfl rfl rfl rfl hO0) ?_
 rintro _ w1 ⟨b1, rfl, hO2, hs3⟩
 refine rl_v rfl rfl rfl (ov_assign rfl rfl) <| rl_v rfl rfl rfl (ov_assign rfl rfl) <| rl_nil <| run_seq <| run_seq <| run_region <| rl_v rfl rfl rfl (ov_loadW rfl Try.underlying49 rfl (by kernel_rfl) rfl hO2 0 rfl) ?_
 refine rl_call callable_36 rfl rfl rfl rfl rfl rfl (checkSwap_any ga n gc L E _ (by omega) (fun r r0 r1 => by have := hL r r0 r1; omega) (hO2.rtab h).tab) (fun e4 w5 hp6 => ?_)
 obtain ⟨rfl, hbl⟩ := hp6
 refine ⟨_, rfl, ?_⟩
 have hO7 := hO2.past hbl
 have h0 := chkS_0.2 ⟨hn, hv⟩
 refine rl_v rfl rfl rfl (ov_assign rfl rfl) <| rl_nil <| run_seq <| run_region <| rl_v rfl rfl rfl (ov_move rfl rfl) <| rl_v rfl rfl rfl (ov_neq rfl rfl rfl) <| rl_nil ?_
 first | refine run_cond_dec rfl (fun h1 => ?_) (fun h1 => ?_) | refine run_cond rfl (fun h1 => ?_) (fun h1 => ?_)
 ·exfalso; exact h1 h0
 ·refine run_skip <| run_seq <| run_region <| rl_v rfl rfl rfl (ov_loadW rfl Try.underlying49 rfl (by kernel_rfl) rfl hO7 0 rfl) ?_
  refine rl_call callable_55 rfl rfl rfl rfl rfl rfl (rings_any sortRows_all ga gc n L E _ hn hv (hO7.rtab h)) (fun e8 w9 hp10 => ?_)
  obtain ⟨oa, nr, ocap, Lr, R, o, t, H, rfl, hO1, hRW, hC, hRO, hR⟩ := hp10
  refine ⟨_, rfl, ?_⟩
  have hO11 := hO7.join hO1
  refine rl_v rfl rfl rfl (ov_assign rfl rfl) <| rl_v rfl rfl rfl (ov_assign rfl rfl) <| rl_nil <| run_ret Try.func37 (res2 Try.results37 rfl rfl) ?_
  exact ⟨oa, nr, ocap, Lr, R, o, t, H, rfl, hO11.sub (List.sublist_append_left _ _), hRW, hC, hRO, rise_of hR⟩
end Go.Proofs.Ytlldeifbfpmbaaa
