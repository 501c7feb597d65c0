import Derived.Test.YtlldeifbfpmbaaaFeF
import Derived.Test.YtlldeifbfpmbaaaFjA
import Derived.Test.YtlldeifbfpmbaaaTb9
set_option maxRecDepth 100000
namespace Go.Proofs.Ytlldeifbfpmbaaa
open Go.RowKit Go.Proofs Go.MapKept
def BSq (H : List (Option Blk)) (oa : Option Addr) (n : Nat) (op : Int → Int → Bool) : Prop :=
 ∃ (rb rc : Int → Nat) (ob : Nat), (0 < n → oa = some ⟨ob, 0, none⟩) ∧ ∀ {B : Nat} {w0 w : World}, Own B w0 w H → (∀ i : Int, 0 ≤ i → i < n → w.cell? ⟨ob, 0 + i.toNat, none⟩ = some (.slice (some ⟨rb i, 0, none⟩) n (rc i))) ∧ ∀ i k : Int, 0 ≤ i → i < n → 0 ≤ k → k < n → w.cell? ⟨rb i, 0 + k.toNat, none⟩ = some (.bool (op i k))
theorem BSq.sub {H M : List (Option Blk)} {oa : Option Addr} {n : Nat} {op : Int → Int → Bool} (h : BSq H oa n op) (hs : H.Sublist M) : BSq M oa n op := by
 obtain ⟨rb, rc, ob, h1, h2⟩ := h
 exact ⟨rb, rc, ob, h1, fun hO => h2 (hO.sub hs)⟩
set_option maxHeartbeats 4000000 in
theorem refMatch_any (n oc : Nat) (oa : Option Addr) (op : Int → Int → Bool) (ob sb : Nat) (B : Nat) (H : List (Option Blk)) (w0 : World) (hn : n ≤ 64) (hT : BSq H oa n op) :
  ∀ (u : Nat) (i : Int) (of : Int → Int) (s : Int → Bool) (w : World), uns s n = u → 0 ≤ i → i < n → (∀ k : Int, 0 ≤ k → k < n → -1 ≤ of k ∧ of k < n) → (∀ k : Int, 0 ≤ k → k < n → 0 ≤ of k → op (of k) k = true) → Own B w0 w (some (vch ob 3 n (fun k => iv (of k))) :: some (vch sb 4 n (fun k => .bool (s k))) :: H) →
  Calls Try.prog 61 #[.slice oa n oc, iv i, .slice (some ⟨ob, 0, none⟩) n n, .slice (some ⟨sb, 0, none⟩) n n] w fun e w' => ∃ (b : Bool) (of' : Int → Int) (s' : Int → Bool), e = .returned (.bool b) ∧ Own B w0 w' (some (vch ob 3 n (fun k => iv (of' k))) :: some (vch sb 4 n (fun k => .bool (s' k))) :: H) ∧
   (b = true → KS n (fun x k => op x k = true) i of s of' ∧ ∀ k : Int, 0 ≤ k → k < n → of' k < n) ∧ (b = false → of' = of ∧ KF n (fun x k => op x k = true) i of s s') := by
 intro u
 induction u using Nat.strongRecOn with
 | ind u ih =>
  intro i of s w hu i0 i1 hof hok hO
  obtain ⟨rb, rc, tb, hta, hrd⟩ := id hT
  have hta' := hta (by omega)
  refine calls_of_run (F := [(0, _), (1, _), (2, _), (3, _)]) Try.func61 rfl Try.ntmps61 rfl rfl <| run_seq <| run_region <| rl_v rfl rfl rfl (ov_assign rfl rfl) <| rl_nil <| run_seq <| run_seq <| run_region <| rl_v rfl rfl rfl (ov_assign rfl rfl) <| rl_nil <| run_block <| Run.keep [0, 1, 2, 3, 9] (F' := [(0, _), (1, _), (2, _), (3, _), (9, _)]) rfl <| run_loop2 (fun (k : Int) (s1 : Int → Bool) => [(9, .int .i64 k)]) [0, 1, 2, 3] (fun (k : Int) (s1 : Int → Bool) (w1 : World) => 0 ≤ k ∧ k ≤ n ∧ KL n (fun x k => op x k = true) of s s1 ∧ (∀ j : Int, 0 ≤ j → j < k → op i j = true → s1 j = true) ∧ Own B w0 w1 (some (vch ob 3 n (fun k => iv (of k))) :: some (vch sb 4 n (fun k => .bool (s1 k))) :: H)) (fun (k : Int) (s1 : Int → Bool) => ((n : Int) - k).toNat) (0) (s) ?_ (And.intro (by exact slot_int rfl (by first | omega)) (And.intro rfl (And.intro rfl (And.intro rfl (And.intro rfl trivial))))) ?_
  ·exact ⟨by omega, by omega, KL.refl _ _ _ _, fun j j0 j1 => by omega, hO⟩
  intro k s1 w1 hIw1 ih2
  obtain ⟨hk0, hk1, hL, hall, hO⟩ := hIw1
  show Run _ _ _ _ [(9, _), (0, _), (1, _), (2, _), (3, _)] _ _
  refine run_seq <| run_seq <| run_region <| rl_v rfl rfl rfl (ov_move rfl rfl) <| rl_v rfl rfl rfl (ov_move rfl rfl) <| rl_v rfl rfl rfl (ov_len rfl Try.underlying23 rfl) <| rl_v rfl rfl rfl (ov_lss rfl rfl rfl) <| rl_nil ?_
  first | refine run_cond_dec rfl (fun h1 => ?_) (fun h1 => ?_) | refine run_cond rfl (fun h1 => ?_) (fun h1 => ?_)
  ·refine run_skip <| run_seq <| run_block <| run_seq <| run_seq <| run_region <| rl_v rfl rfl rfl (ov_move rfl rfl) <| rl_v rfl rfl rfl (ov_move rfl rfl) <| rl_v rfl rfl rfl (ov_index1 rfl Try.underlying93 (by kernel_rfl) rfl rfl ⟨by omega, by omega⟩ (by exact (id hta'))) ?_
   refine rl_v rfl rfl rfl (ov_load rfl Try.underlying92 rfl rfl (by exact (hrd hO.tail.tail).1 i i0 i1)) ?_
   refine rl_v rfl rfl rfl (ov_move rfl rfl) <| rl_v rfl rfl rfl (ov_index1 rfl Try.underlying92 (by kernel_rfl) rfl rfl ⟨by omega, by omega⟩ (by rfl)) ?_
   refine rl_v rfl rfl rfl (ov_load rfl Try.underlying4 rfl rfl (by exact (hrd hO.tail.tail).2 i k i0 i1 hk0 h1)) ?_
   refine rl_v rfl rfl rfl (ov_not rfl rfl) <| rl_v rfl rfl rfl (ov_move rfl rfl) ?_
   first | refine rl_split_dec 24 rfl (fun g1 => ?_) (fun g1 => ?_) | refine rl_split 24 rfl (fun g1 => ?_) (fun g1 => ?_)
   ·refine rl_gskip rfl rfl rfl rfl rfl rfl <| rl_gskip rfl rfl rfl rfl rfl rfl <| rl_gskip rfl rfl rfl rfl rfl rfl <| rl_gskip rfl rfl rfl rfl rfl rfl <| rl_v rfl rfl rfl (ov_pick_t rfl rfl rfl) <| rl_nil <| run_cond_t rfl ?_
    have hno : op i k = false := by cases e : op i k; rfl; rw [e] at g1; exact Bool.noConfusion g1
    refine run_exit rfl <| run_region <| rl_v rfl rfl rfl (ov_move rfl rfl) <| rl_v rfl rfl rfl (ov_add rfl rfl rfl (by omega)) ?_
    refine rl_v rfl rfl rfl (ov_assign rfl rfl) <| rl_nil ?_
    refine Run.use (ih2 (k + 1) (s1) _ ?_ ?_) (And.intro (by exact slot_int rfl (by first | omega)) (And.intro rfl (And.intro rfl (And.intro rfl (And.intro rfl trivial)))))
    ·first | omega | (dsimp only; omega)
    ·exact ⟨by omega, by omega, hL, fun j j0 j1 hj => by by_cases e : j = k; (rw [e, hno] at hj; exact Bool.noConfusion hj); (exact hall j j0 (by omega) hj), hO⟩
   ·have hop : op i k = true := by cases e : op i k; rw [e] at g1; exact Bool.noConfusion g1; rfl
    refine rl_gv rfl rfl rfl rfl rfl (ov_move rfl rfl) <| rl_gv rfl rfl rfl rfl rfl (ov_move rfl rfl) <| rl_gv rfl rfl rfl rfl rfl (ov_index1 rfl Try.underlying92 (by kernel_rfl) rfl rfl ⟨by omega, by omega⟩ (by rfl)) ?_
    refine rl_gv rfl rfl rfl rfl rfl (ov_load rfl Try.underlying4 rfl rfl (by exact hO.cellI 1 rfl k hk0 h1)) ?_
    refine rl_v rfl rfl rfl (ov_pick_f rfl rfl rfl) <| rl_nil ?_
    first | refine run_cond_dec rfl (fun g2 => ?_) (fun g2 => ?_) | refine run_cond rfl (fun g2 => ?_) (fun g2 => ?_)
    ·refine run_exit rfl <| run_region <| rl_v rfl rfl rfl (ov_move rfl rfl) <| rl_v rfl rfl rfl (ov_add rfl rfl rfl (by omega)) ?_
     refine rl_v rfl rfl rfl (ov_assign rfl rfl) <| rl_nil ?_
     refine Run.use (ih2 (k + 1) (s1) _ ?_ ?_) (And.intro (by exact slot_int rfl (by first | omega)) (And.intro rfl (And.intro rfl (And.intro rfl (And.intro rfl trivial)))))
     ·first | omega | (dsimp only; omega)
     ·exact ⟨by omega, by omega, hL, fun j j0 j1 hj => by by_cases e : j = k; (rw [e]; exact g2); (exact hall j j0 (by omega) hj), hO⟩
    ·have hsk : s1 k = false := by cases e : s1 k; rfl; rw [e] at g2; exact Bool.noConfusion g2
     refine run_skip <| run_seq <| run_region <| rl_v rfl rfl rfl (ov_move rfl rfl) <| rl_v rfl rfl rfl (ov_move rfl rfl) <| rl_v rfl rfl rfl (ov_index1 rfl Try.underlying92 (by kernel_rfl) rfl rfl ⟨by omega, by omega⟩ (by rfl)) ?_
     refine rl_ow rfl (ow_store rfl rfl (by kernel_rfl) hO 1 rfl rfl ⟨by omega, by omega⟩ rfl rfl) ?_
     rintro _ w4 ⟨rfl, hO5, hs6⟩
     have hOm : Own B w0 w4 (some (vch ob 3 n (fun k => iv (of k))) :: some (vch sb 4 n (fun j => .bool (upd s1 k true j))) :: H) := hO5.congrI 1 rfl fun j j0 j1 => by unfold upd; split <;> rfl
     have hofk := hof k hk0 h1
     refine rl_nil <| run_seq <| run_region <| rl_v rfl rfl rfl (ov_move rfl rfl) <| rl_v rfl rfl rfl (ov_move rfl rfl) <| rl_v rfl rfl rfl (ov_index1 rfl Try.underlying23 (by kernel_rfl) rfl rfl ⟨by omega, by omega⟩ (by rfl)) ?_
     refine rl_v rfl rfl rfl (ov_load rfl Try.underlying3 rfl rfl (by exact hOm.cellI 0 rfl k hk0 h1)) ?_
     refine rl_v rfl rfl rfl (ov_lss rfl rfl rfl) <| rl_v rfl rfl rfl (ov_move rfl rfl) ?_
     first | refine rl_split_dec 38 rfl (fun g3 => ?_) (fun g3 => ?_) | refine rl_split 38 rfl (fun g3 => ?_) (fun g3 => ?_)
     ·refine rl_gskip rfl rfl rfl rfl rfl rfl <| rl_gskip rfl rfl rfl rfl rfl rfl <| rl_gskip rfl rfl rfl rfl rfl rfl <| rl_gskip rfl rfl rfl rfl rfl rfl <| rl_gskip rfl rfl rfl rfl rfl rfl <| rl_gskip rfl rfl rfl rfl rfl rfl <| rl_gskip rfl rfl rfl rfl rfl rfl <| rl_gskip rfl rfl rfl rfl rfl rfl <| rl_v rfl rfl rfl (ov_pick_t rfl rfl rfl) <| rl_nil <| run_cond_t rfl <| run_seq <| run_region <| rl_v rfl rfl rfl (ov_move rfl rfl) <| rl_v rfl rfl rfl (ov_move rfl rfl) <| rl_v rfl rfl rfl (ov_move rfl rfl) <| rl_v rfl rfl rfl (ov_index1 rfl Try.underlying23 (by kernel_rfl) rfl rfl ⟨by omega, by omega⟩ (by rfl)) ?_
      refine rl_ow rfl (ow_storeI rfl rfl (by kernel_rfl) hOm 0 rfl rfl ⟨by omega, by omega⟩ rfl) ?_
      rintro _ w8 ⟨rfl, hO9, hs10⟩
      refine rl_nil <| run_seq <| run_region <| rl_v rfl rfl rfl (ov_assign rfl rfl) <| rl_nil <| run_ret Try.func61 (res1 Try.results61 rfl) ?_
      exact ⟨true, _, _, rfl, hO9, fun _ => ⟨KS.free hok hL hk0 h1 hsk g3 i0 hop, fun j j0 j1 => by unfold upd; split; exact i1; exact (hof j j0 j1).2⟩, fun h => Bool.noConfusion h⟩
     ·have hm := uns_mark hk0 h1 hsk
      have hle := uns_le hL.sub
      have hnn := uns_nonneg (upd s1 k true) n
      refine rl_gv rfl rfl rfl rfl rfl (ov_move rfl rfl) <| rl_gv rfl rfl rfl rfl rfl (ov_move rfl rfl) <| rl_gv rfl rfl rfl rfl rfl (ov_move rfl rfl) <| rl_gv rfl rfl rfl rfl rfl (ov_index1 rfl Try.underlying23 (by kernel_rfl) rfl rfl ⟨by omega, by omega⟩ (by rfl)) ?_
      refine rl_gv rfl rfl rfl rfl rfl (ov_load rfl Try.underlying3 rfl rfl (by exact hOm.cellI 0 rfl k hk0 h1)) ?_
      refine rl_gv rfl rfl rfl rfl rfl (ov_move rfl rfl) <| rl_gv rfl rfl rfl rfl rfl (ov_move rfl rfl) ?_
      refine rl_gcall callable_61 rfl rfl rfl rfl rfl rfl rfl rfl (ih (uns (upd s1 k true) n).toNat (by omega) (of k) of (upd s1 k true) _ (by omega) (by omega) hofk.2 hof hok hOm) (fun e11 w12 hp13 => ?_)
      obtain ⟨b, of1, s2, rfl, hO2, hS, hF⟩ := hp13
      refine ⟨_, rfl, ?_⟩
      refine rl_v rfl rfl rfl (ov_pick_f rfl rfl rfl) <| rl_nil ?_
      first | refine run_cond_dec rfl (fun g4 => ?_) (fun g4 => ?_) | refine run_cond rfl (fun g4 => ?_) (fun g4 => ?_)
      ·obtain ⟨hS1, hS2⟩ := hS g4
       refine run_seq <| run_region <| rl_v rfl rfl rfl (ov_move rfl rfl) <| rl_v rfl rfl rfl (ov_move rfl rfl) <| rl_v rfl rfl rfl (ov_move rfl rfl) <| rl_v rfl rfl rfl (ov_index1 rfl Try.underlying23 (by kernel_rfl) rfl rfl ⟨by omega, by omega⟩ (by rfl)) ?_
       refine rl_ow rfl (ow_storeI rfl rfl (by kernel_rfl) hO2 0 rfl rfl ⟨by omega, by omega⟩ rfl) ?_
       rintro _ w14 ⟨rfl, hO15, hs16⟩
       refine rl_nil <| run_seq <| run_region <| rl_v rfl rfl rfl (ov_assign rfl rfl) <| rl_nil <| run_ret Try.func61 (res1 Try.results61 rfl) ?_
       exact ⟨true, _, _, rfl, hO15, fun _ => ⟨KS.push hL hk0 h1 hsk i0 hop hS1, fun j j0 j1 => by unfold upd; split; exact i1; exact hS2 j j0 j1⟩, fun h => Bool.noConfusion h⟩
      ·have hbf : b = false := by cases b; rfl; exact Bool.noConfusion g4
       obtain ⟨rfl, hF1⟩ := hF hbf
       have hL2 := hL.step hk0 h1 (by omega) hF1
       refine run_skip <| run_inBlock <| run_region <| rl_v rfl rfl rfl (ov_move rfl rfl) <| rl_v rfl rfl rfl (ov_add rfl rfl rfl (by omega)) ?_
       refine rl_v rfl rfl rfl (ov_assign rfl rfl) <| rl_nil ?_
       refine Run.use (ih2 (k + 1) (s2) _ ?_ ?_) (And.intro (by exact slot_int rfl (by first | omega)) (And.intro rfl (And.intro rfl (And.intro rfl (And.intro rfl trivial)))))
       ·first | omega | (dsimp only; omega)
       ·exact ⟨by omega, by omega, hL2, fun j j0 j1 hj => hF1.l.sub j j0 (by omega) (by unfold upd; split; rfl; exact hall j j0 (by omega) hj), hO2⟩
  ·obtain rfl : k = n := by omega
   refine run_exit rfl <| run_seq <| run_region <| rl_v rfl rfl rfl (ov_assign rfl rfl) <| rl_nil <| run_ret Try.func61 (res1 Try.results61 rfl) ?_
   exact ⟨false, of, s1, rfl, hO, fun h => Bool.noConfusion h, fun _ => ⟨rfl, hL, fun j j0 j1 hj => hall j j0 j1 hj⟩⟩
end Go.Proofs.Ytlldeifbfpmbaaa
