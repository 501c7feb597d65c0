import Derived.Test.YtfbbagnpdfafjaaBitB
import Derived.Test.YtfbbagnpdfafjaaShrA
import Derived.Test.YtfbbagnpdfafjaaQui
set_option maxRecDepth 100000
namespace Go.Proofs.Ytfbbagnpdfafjaa
open Go.RowKit Go.Proofs
structure Cl (B : Nat) (w0 : World) (H : List (Option Blk)) (w : World) : Prop where
 own : Own B w0 w H
theorem wPos {x : Int} (h0 : 0 ≤ x) (h1 : x < 18446744073709551616) : IntKind.u64.wrap x = ((x.toNat : Nat) : Int) := by rw [IntKind.wrap_u64]; omega
theorem iPos {n : Nat} {x : Int} (e : (n : Int) = x) (h1 : x < 9223372036854775808) (h0 : 0 ≤ x) : IntKind.i64.wrap (n : Int) = x := by rw [e]; exact IntWalk.i64_in _ (by omega)
def cmpV (a b : Int) : Int := if b < a then -1 else if a < b then 1 else 0
theorem cmpV_neg {a b : Int} : cmpV a b < 0 ↔ b < a := by unfold cmpV; split; omega; split <;> omega
theorem cmp_any (i j : Int) (bx rb n B : Nat) (r : Int → Int) (x : Option Blk) (H : List (Option Blk)) (w0 w : World) (hO : Own B w0 w (x :: some (lch bx 225 [.slice (some ⟨rb, 0, none⟩) n n]) :: some (vch rb 90 n (fun k => .int .u64 (r k))) :: H)) (hi : 0 ≤ i ∧ i < n) (hj : 0 ≤ j ∧ j < n) :
  Calls Try.prog 139 #[iv i, iv j, ptr bx] w fun e w' => e = .returned (iv (cmpV (r i) (r j))) ∧ Own B w0 w' (x :: some (lch bx 225 [.slice (some ⟨rb, 0, none⟩) n n]) :: some (vch rb 90 n (fun k => .int .u64 (r k))) :: H) := by
 refine calls_of_run (F := [(0, _), (1, _), (2, _)]) Try.func139 rfl Try.ntmps139 rfl rfl <| run_seq <| run_region <| rl_v rfl rfl rfl (ov_assign rfl rfl) <| rl_nil <| run_seq <| run_block <| run_seq <| run_quiet mixed (by kernel_rfl) ?_
 refine rq_v rfl rfl rfl (fun _ => ov_load rfl Try.underlying225 rfl rfl (by show World.cell? w _ = _; first | exact hO.cellL 1 rfl (off := 0) rfl)) ?_
 refine rq_v rfl rfl rfl (fun _ => ov_move rfl rfl) ?_
 refine rq_v rfl rfl rfl (fun _ => ov_index1 rfl Try.underlying225 (by kernel_rfl) rfl rfl ⟨by omega, by omega⟩ rfl) ?_
 refine rq_v rfl rfl rfl (fun _ => ov_load rfl Try.underlying90 rfl rfl (by show World.cell? w _ = _; first | exact hO.cellI 2 rfl i hi.1 hi.2)) ?_
 refine rq_v rfl rfl rfl (fun _ => ov_load rfl Try.underlying225 rfl rfl (by show World.cell? w _ = _; first | exact hO.cellL 1 rfl (off := 0) rfl)) ?_
 refine rq_v rfl rfl rfl (fun _ => ov_move rfl rfl) ?_
 refine rq_v rfl rfl rfl (fun _ => ov_index1 rfl Try.underlying225 (by kernel_rfl) rfl rfl ⟨by omega, by omega⟩ rfl) ?_
 refine rq_v rfl rfl rfl (fun _ => ov_load rfl Try.underlying90 rfl rfl (by show World.cell? w _ = _; first | exact hO.cellI 2 rfl j hj.1 hj.2)) ?_
 refine rq_v rfl rfl rfl (fun _ => ov_gtr rfl rfl rfl) ?_
 refine rq_v rfl rfl rfl (fun _ => ov_assign rfl rfl) ?_
 refine rq_nil (fun n1 => ?_)
 have hO3 := hO.drewN n1
 generalize World.drewN w n1 = w2 at hO3 ⊢
 first | refine run_cond_dec rfl (fun c1 => ?_) (fun c1 => ?_) | refine run_cond rfl (fun c1 => ?_) (fun c1 => ?_)
 ·refine run_seq <| run_region <| rl_v rfl rfl rfl (ov_assign rfl rfl) <| rl_nil <| run_ret Try.func139 (res1 Try.results139 rfl) ?_
  exact ⟨by unfold cmpV; rw [if_pos c1], hO3⟩
 ·refine run_seq <| run_quiet mixed (by kernel_rfl) ?_
  refine rq_v rfl rfl rfl (fun _ => ov_load rfl Try.underlying225 rfl rfl (by show World.cell? w2 _ = _; first | exact hO3.cellL 1 rfl (off := 0) rfl)) ?_
  refine rq_v rfl rfl rfl (fun _ => ov_move rfl rfl) ?_
  refine rq_v rfl rfl rfl (fun _ => ov_index1 rfl Try.underlying225 (by kernel_rfl) rfl rfl ⟨by omega, by omega⟩ rfl) ?_
  refine rq_v rfl rfl rfl (fun _ => ov_load rfl Try.underlying90 rfl rfl (by show World.cell? w2 _ = _; first | exact hO3.cellI 2 rfl i hi.1 hi.2)) ?_
  refine rq_v rfl rfl rfl (fun _ => ov_load rfl Try.underlying225 rfl rfl (by show World.cell? w2 _ = _; first | exact hO3.cellL 1 rfl (off := 0) rfl)) ?_
  refine rq_v rfl rfl rfl (fun _ => ov_move rfl rfl) ?_
  refine rq_v rfl rfl rfl (fun _ => ov_index1 rfl Try.underlying225 (by kernel_rfl) rfl rfl ⟨by omega, by omega⟩ rfl) ?_
  refine rq_v rfl rfl rfl (fun _ => ov_load rfl Try.underlying90 rfl rfl (by show World.cell? w2 _ = _; first | exact hO3.cellI 2 rfl j hj.1 hj.2)) ?_
  refine rq_v rfl rfl rfl (fun _ => ov_lss rfl rfl rfl) ?_
  refine rq_v rfl rfl rfl (fun _ => ov_assign rfl rfl) ?_
  refine rq_nil (fun n4 => ?_)
  have hO6 := hO3.drewN n4
  generalize World.drewN w2 n4 = w5 at hO6 ⊢
  first | refine run_cond_dec rfl (fun c2 => ?_) (fun c2 => ?_) | refine run_cond rfl (fun c2 => ?_) (fun c2 => ?_)
  ·refine run_seq <| run_region <| rl_v rfl rfl rfl (ov_assign rfl rfl) <| rl_nil <| run_ret Try.func139 (res1 Try.results139 rfl) ?_
   exact ⟨by unfold cmpV; rw [if_neg c1, if_pos c2], hO6⟩
  ·refine run_skip <| run_inBlock <| run_seq <| run_region <| rl_v rfl rfl rfl (ov_assign rfl rfl) <| rl_nil <| run_ret Try.func139 (res1 Try.results139 rfl) ?_
   exact ⟨by unfold cmpV; rw [if_neg c1, if_neg c2], hO6⟩
theorem insertion_any (b cap n bx rb B : Nat) (r g : Int → Int) (G : Int → Value) (H : List (Option Blk)) (w0 w : World) (hO : Own B w0 w (some (vch b 3 cap G) :: some (lch bx 225 [.slice (some ⟨rb, 0, none⟩) n n]) :: some (vch rb 90 n (fun k => .int .u64 (r k))) :: H))
  (hn : 1 ≤ n ∧ n < 20) (hc : n ≤ cap) (hG : ∀ i : Int, 0 ≤ i → i < n → G i = iv (g i)) (hg : ∀ i : Int, 0 ≤ i → i < n → g i = i) :
  Calls Try.prog 147 #[.slice (some ⟨b, 0, none⟩) n cap, iv 0, iv n, .func (.func 139) #[] #[ptr bx]] w fun e w' => e = .returned (.tuple #[]) ∧ ∃ G' g', (∀ i : Int, 0 ≤ i → i < n → G' i = iv (g' i)) ∧ Srt r g' n ∧ Own B w0 w' (some (vch b 3 cap G') :: some (lch bx 225 [.slice (some ⟨rb, 0, none⟩) n n]) :: some (vch rb 90 n (fun k => .int .u64 (r k))) :: H) := by
 refine calls_of_run (F := [(0, _), (1, _), (2, _), (3, _)]) Try.func147 rfl Try.ntmps147 rfl rfl <| run_seq <| run_region <| rl_v rfl rfl rfl (ov_move rfl rfl) <| rl_v rfl rfl rfl (ov_add rfl rfl rfl (by omega)) ?_
 refine rl_v rfl rfl rfl (ov_assign rfl rfl) <| rl_nil <| run_block <| Run.keep [0, 1, 2, 3, 8] (F' := [(0, _), (1, _), (2, _), (3, _), (8, _)]) rfl <| run_loop3 (fun (i : Int) (g : Int → Int) (G : Int → Value) => [(8, .int .i64 i)]) [0, 1, 2, 3] (fun (i : Int) (g : Int → Int) (G : Int → Value) (w1 : World) => (1 ≤ i ∧ i ≤ n) ∧ Srt r g i ∧ (∀ a : Int, i ≤ a → a < n → g a = a) ∧ (∀ a : Int, 0 ≤ a → a < n → G a = iv (g a)) ∧ Own B w0 w1 (some (vch b 3 cap G) :: some (lch bx 225 [.slice (some ⟨rb, 0, none⟩) n n]) :: some (vch rb 90 n (fun k => .int .u64 (r k))) :: H)) (fun (i : Int) (g : Int → Int) (G : Int → Value) => ((n : Int) - i).toNat) (1) (g) (G) ?_ (And.intro (by exact slot_int rfl (by first | omega)) (And.intro rfl (And.intro rfl (And.intro rfl (And.intro rfl trivial))))) ?_
 ·exact ⟨by omega, ⟨⟨fun a a0 a1 => by rw [hg a a0 (by omega)]; omega, fun v v0 v1 => ⟨v, v0, v1, hg v v0 (by omega)⟩⟩, fun a b a0 ab b1 => by omega⟩, fun a a0 a1 => hg a (by omega) a1, hG, hO⟩
 intro i g G w1 hIw1 ih2
 obtain ⟨hi, hs, hg, hG, hO⟩ := hIw1
 show Run _ _ _ _ [(8, _), (0, _), (1, _), (2, _), (3, _)] _ _
 refine run_seq <| run_seq <| run_region <| rl_v rfl rfl rfl (ov_move rfl rfl) <| rl_v rfl rfl rfl (ov_move rfl rfl) <| rl_v rfl rfl rfl (ov_lss rfl rfl rfl) <| rl_nil ?_
 first | refine run_cond_dec rfl (fun h1 => ?_) (fun h1 => ?_) | refine run_cond rfl (fun h1 => ?_) (fun h1 => ?_)
 ·refine run_skip <| run_seq <| run_block <| run_seq <| run_region <| rl_v rfl rfl rfl (ov_move rfl rfl) <| rl_v rfl rfl rfl (ov_assign rfl rfl) <| rl_nil <| run_block <| Run.keep [0, 1, 2, 3, 8, 9] (F' := [(0, _), (1, _), (2, _), (3, _), (8, _), (9, _)]) rfl <| run_loop3 (fun (j : Int) (g : Int → Int) (G : Int → Value) => [(9, .int .i64 j)]) [0, 1, 2, 3, 8] (fun (j : Int) (g : Int → Int) (G : Int → Value) (w3 : World) => Ins r g i j ∧ (∀ a : Int, i + 1 ≤ a → a < n → g a = a) ∧ (∀ a : Int, 0 ≤ a → a < n → G a = iv (g a)) ∧ Own B w0 w3 (some (vch b 3 cap G) :: some (lch bx 225 [.slice (some ⟨rb, 0, none⟩) n n]) :: some (vch rb 90 n (fun k => .int .u64 (r k))) :: H)) (fun (j : Int) (g : Int → Int) (G : Int → Value) => j.toNat) (i) (g) (G) ?_ (And.intro (by exact slot_int rfl (by first | omega)) (And.intro rfl (And.intro rfl (And.intro rfl (And.intro rfl (And.intro rfl trivial)))))) ?_
  ·exact ⟨Ins.init (by omega) hs (hg i (by omega) h1), fun a a0 a1 => hg a (by omega) a1, hG, hO⟩
  intro j g G w3 hIw3 ih4
  obtain ⟨hI, hg, hG, hO⟩ := hIw3
  show Run _ _ _ _ [(9, _), (0, _), (1, _), (2, _), (3, _), (8, _)] _ _
  have hj := hI.rng
  have hr1 : 0 ≤ j → 0 ≤ g j ∧ g j < n := fun h => by have := hI.pm.1 j h (by omega); omega
  have hr2 : 0 < j → 0 ≤ g (j - 1) ∧ g (j - 1) < n := fun h => by have := hI.pm.1 (j - 1) (by omega) (by omega); omega
  refine run_seq <| run_seq <| run_class (Cl B w0 (some (vch b 3 cap G) :: some (lch bx 225 [.slice (some ⟨rb, 0, none⟩) n n]) :: some (vch rb 90 n (fun k => .int .u64 (r k))) :: H)) (⟨hO.drew⟩) mixed (by kernel_rfl) ?_
  refine rk_v rfl rfl rfl (fun wq hQ => ov_move rfl rfl) ?_
  refine rk_v rfl rfl rfl (fun wq hQ => ov_move rfl rfl) ?_
  refine rk_v rfl rfl rfl (fun wq hQ => ov_gtr rfl rfl rfl) ?_
  refine rk_v rfl rfl rfl (fun wq hQ => ov_move rfl rfl) ?_
  first | refine rk_split_dec 21 rfl (fun q1 => ?_) (fun q1 => ?_) | refine rk_split 21 rfl (fun q1 => ?_) (fun q1 => ?_)
  ·refine rk_gv rfl rfl rfl rfl rfl (fun wq hQ => ov_move rfl rfl) ?_
   refine rk_gv rfl rfl rfl rfl rfl (fun wq hQ => ov_move rfl rfl) ?_
   refine rk_gv rfl rfl rfl rfl rfl (fun wq hQ => ov_move rfl rfl) ?_
   refine rk_gv rfl rfl rfl rfl rfl (fun wq hQ => ov_index1 rfl Try.underlying51 (by kernel_rfl) rfl rfl ⟨by omega, by omega⟩ rfl) ?_
   refine rk_gv rfl rfl rfl rfl rfl (fun wq hQ => ov_load rfl Try.underlying3 rfl rfl (by exact ((hQ.own).cellI 0 rfl j (by omega) (by omega)).trans (congrArg some (hG j (by omega) (by omega))))) ?_
   refine rk_gv rfl rfl rfl rfl rfl (fun wq hQ => ov_move rfl rfl) ?_
   refine rk_gv rfl rfl rfl rfl rfl (fun wq hQ => ov_move rfl rfl) ?_
   refine rk_gv rfl rfl rfl rfl rfl (fun wq hQ => ov_sub rfl rfl rfl (by omega)) ?_
   refine rk_gv rfl rfl rfl rfl rfl (fun wq hQ => ov_index1 rfl Try.underlying51 (by kernel_rfl) rfl rfl ⟨by omega, by omega⟩ rfl) ?_
   refine rk_gv rfl rfl rfl rfl rfl (fun wq hQ => ov_load rfl Try.underlying3 rfl rfl (by exact ((hQ.own).cellI 0 rfl (j - 1) (by omega) (by omega)).trans (congrArg some (hG (j - 1) (by omega) (by omega))))) ?_
   refine rk_gcall callable_139 rfl rfl rfl rfl rfl rfl rfl rfl (fun wq hQ => (cmp_any (g j) (g (j - 1)) bx rb n B r _ H w0 wq (hQ.own) (hr1 (by omega)) (hr2 (by omega))).mono fun _ _ h => ⟨h.1, ⟨h.2⟩⟩) ?_
   refine rk_gv rfl rfl rfl rfl rfl (fun wq hQ => ov_lss rfl rfl rfl) ?_
   refine rk_v rfl rfl rfl (fun wq hQ => ov_pick_t rfl rfl rfl) ?_
   refine rk_nil (fun w9 hQ => ?_)
   first | refine run_cond_dec rfl (fun c => ?_) (fun c => ?_) | refine run_cond rfl (fun c => ?_) (fun c => ?_)
   ·have hc2 := cmpV_neg.1 c
    refine run_skip <| run_seq <| run_block <| run_held (fun w' => Own B w0 w' (some (lch bx 225 [.slice (some ⟨rb, 0, none⟩) n n]) :: some (vch rb 90 n (fun k => .int .u64 (r k))) :: H)) mixed ?_
    have hO11 := (hQ.own).drew
    generalize World.drew w9 = w10 at hO11 ⊢
    have hS12 : Own B w0 w10 (some (lch bx 225 [.slice (some ⟨rb, 0, none⟩) n n]) :: some (vch rb 90 n (fun k => .int .u64 (r k))) :: H) := by exact hO11.tail
    refine rh_v 0 rfl (by kernel_rfl) rfl rfl rfl hS12 (fun _ hS => ov_move rfl rfl) ?_
    refine rh_v 1 rfl (by kernel_rfl) rfl rfl rfl hS12 (fun _ hS => ov_move rfl rfl) ?_
    refine rh_v 2 rfl (by kernel_rfl) rfl rfl rfl hS12 (fun _ hS => ov_move rfl rfl) ?_
    refine rh_v 3 rfl (by kernel_rfl) rfl rfl rfl hS12 (fun _ hS => ov_move rfl rfl) ?_
    refine rh_v 4 rfl (by kernel_rfl) rfl rfl rfl hS12 (fun _ hS => ov_sub rfl rfl rfl (by omega)) ?_
    refine rh_v 5 rfl (by kernel_rfl) rfl rfl rfl hS12 (fun _ hS => ov_move rfl rfl) ?_
    refine rh_v 6 rfl (by kernel_rfl) rfl rfl rfl hS12 (fun _ hS => ov_move rfl rfl) ?_
    refine rh_v 7 rfl (by kernel_rfl) rfl rfl rfl hS12 (fun _ hS => ov_sub rfl rfl rfl (by omega)) ?_
    refine rh_v 8 rfl (by kernel_rfl) rfl rfl rfl hS12 (fun _ hS => ov_index1 rfl Try.underlying51 (by kernel_rfl) rfl rfl ⟨by omega, by omega⟩ rfl) ?_
    refine rh_v 10 rfl (by kernel_rfl) rfl rfl rfl hS12 (fun _ hS => ov_move rfl rfl) ?_
    refine rh_v 11 rfl (by kernel_rfl) rfl rfl rfl hS12 (fun _ hS => ov_move rfl rfl) ?_
    refine rh_v 12 rfl (by kernel_rfl) rfl rfl rfl hS12 (fun _ hS => ov_index1 rfl Try.underlying51 (by kernel_rfl) rfl rfl ⟨by omega, by omega⟩ rfl) ?_
    refine rh_any2 9 13 (by kernel_rfl) ?_ ?_
    ·refine rc_op rfl rfl (ow_v rfl rfl (ov_load rfl Try.underlying3 rfl rfl (by exact (hO11.cellI 0 rfl (j - 1) (by omega) (by omega)).trans (congrArg some (hG (j - 1) (by omega) (by omega)))))) ?_
     rintro _ _ ⟨rfl, hw13⟩
     replace hw13 := hw13.symm; subst hw13
     refine ⟨hS12, ?_⟩
     refine rh_any1 13 (by kernel_rfl) ?_
     refine rc_op rfl rfl (ow_v rfl rfl (ov_load rfl Try.underlying3 rfl rfl (by exact (hO11.cellI 0 rfl j (by omega) (by omega)).trans (congrArg some (hG j (by omega) (by omega)))))) ?_
     rintro _ _ ⟨rfl, hw14⟩
     replace hw14 := hw14.symm; subst hw14
     refine ⟨hS12, ?_⟩
     refine rh_v 14 rfl (by kernel_rfl) rfl rfl rfl hS12 (fun _ hS => ov_index1 rfl Try.underlying51 (by kernel_rfl) rfl rfl ⟨by omega, by omega⟩ rfl) ?_
     refine rh_any1 15 (by kernel_rfl) ?_
     refine rc_op rfl rfl (ow_store rfl rfl (by kernel_rfl) hO11 0 rfl rfl ⟨by omega, by omega⟩ rfl rfl) ?_
     rintro _ w15 ⟨rfl, hO16, hs17⟩
     have hS18 : Own B w0 w15 (some (lch bx 225 [.slice (some ⟨rb, 0, none⟩) n n]) :: some (vch rb 90 n (fun k => .int .u64 (r k))) :: H) := by exact hO16.tail
     refine ⟨hS18, ?_⟩
     refine rh_v 16 rfl (by kernel_rfl) rfl rfl rfl hS18 (fun _ hS => ov_index1 rfl Try.underlying51 (by kernel_rfl) rfl rfl ⟨by omega, by omega⟩ rfl) ?_
     refine rh_any1 17 (by kernel_rfl) ?_
     refine rc_op rfl rfl (ow_store rfl rfl (by kernel_rfl) hO16 0 rfl rfl ⟨by omega, by omega⟩ rfl rfl) ?_
     rintro _ w19 ⟨rfl, hO20, hs21⟩
     have hS22 : Own B w0 w19 (some (lch bx 225 [.slice (some ⟨rb, 0, none⟩) n n]) :: some (vch rb 90 n (fun k => .int .u64 (r k))) :: H) := by exact hO20.tail
     refine ⟨hS22, ?_⟩
     refine rh_done (by kernel_rfl) ?_
     refine run_inBlock <| run_region <| rl_v rfl rfl rfl (ov_move rfl rfl) <| rl_v rfl rfl rfl (ov_sub rfl rfl rfl (by omega)) ?_
     refine rl_v rfl rfl rfl (ov_assign rfl rfl) <| rl_nil ?_
     refine Run.use (ih4 (j - 1) (upd (upd g j (g (j - 1))) (j - 1) (g j)) (upd (upd G j (iv (g (j - 1)))) (j - 1) (iv (g j))) _ ?_ ?_) (And.intro (by exact slot_int rfl (by first | omega)) (And.intro rfl (And.intro rfl (And.intro rfl (And.intro rfl (And.intro rfl trivial))))))
     ·first | omega | (dsimp only; omega)
     ·exact ⟨hI.step (by omega) hc2, fun a a0 a1 => (by rw [upd_ne _ _ (by omega), upd_ne _ _ (by omega)]; exact hg a a0 a1), fun a a0 a1 => (by unfold upd; split; rfl; split; rfl; exact hG a a0 a1), hO20⟩
    ·refine rc_op rfl rfl (ow_v rfl rfl (ov_load rfl Try.underlying3 rfl rfl (by exact (hO11.cellI 0 rfl j (by omega) (by omega)).trans (congrArg some (hG j (by omega) (by omega)))))) ?_
     rintro _ _ ⟨rfl, hw23⟩
     replace hw23 := hw23.symm; subst hw23
     refine ⟨hS12, ?_⟩
     refine rh_any1 9 (by kernel_rfl) ?_
     refine rc_op rfl rfl (ow_v rfl rfl (ov_load rfl Try.underlying3 rfl rfl (by exact (hO11.cellI 0 rfl (j - 1) (by omega) (by omega)).trans (congrArg some (hG (j - 1) (by omega) (by omega)))))) ?_
     rintro _ _ ⟨rfl, hw24⟩
     replace hw24 := hw24.symm; subst hw24
     refine ⟨hS12, ?_⟩
     refine rh_v 14 rfl (by kernel_rfl) rfl rfl rfl hS12 (fun _ hS => ov_index1 rfl Try.underlying51 (by kernel_rfl) rfl rfl ⟨by omega, by omega⟩ rfl) ?_
     refine rh_any1 15 (by kernel_rfl) ?_
     refine rc_op rfl rfl (ow_store rfl rfl (by kernel_rfl) hO11 0 rfl rfl ⟨by omega, by omega⟩ rfl rfl) ?_
     rintro _ w25 ⟨rfl, hO26, hs27⟩
     have hS28 : Own B w0 w25 (some (lch bx 225 [.slice (some ⟨rb, 0, none⟩) n n]) :: some (vch rb 90 n (fun k => .int .u64 (r k))) :: H) := by exact hO26.tail
     refine ⟨hS28, ?_⟩
     refine rh_v 16 rfl (by kernel_rfl) rfl rfl rfl hS28 (fun _ hS => ov_index1 rfl Try.underlying51 (by kernel_rfl) rfl rfl ⟨by omega, by omega⟩ rfl) ?_
     refine rh_any1 17 (by kernel_rfl) ?_
     refine rc_op rfl rfl (ow_store rfl rfl (by kernel_rfl) hO26 0 rfl rfl ⟨by omega, by omega⟩ rfl rfl) ?_
     rintro _ w29 ⟨rfl, hO30, hs31⟩
     have hS32 : Own B w0 w29 (some (lch bx 225 [.slice (some ⟨rb, 0, none⟩) n n]) :: some (vch rb 90 n (fun k => .int .u64 (r k))) :: H) := by exact hO30.tail
     refine ⟨hS32, ?_⟩
     refine rh_done (by kernel_rfl) ?_
     refine run_inBlock <| run_region <| rl_v rfl rfl rfl (ov_move rfl rfl) <| rl_v rfl rfl rfl (ov_sub rfl rfl rfl (by omega)) ?_
     refine rl_v rfl rfl rfl (ov_assign rfl rfl) <| rl_nil ?_
     refine Run.use (ih4 (j - 1) (upd (upd g j (g (j - 1))) (j - 1) (g j)) (upd (upd G j (iv (g (j - 1)))) (j - 1) (iv (g j))) _ ?_ ?_) (And.intro (by exact slot_int rfl (by first | omega)) (And.intro rfl (And.intro rfl (And.intro rfl (And.intro rfl (And.intro rfl trivial))))))
     ·first | omega | (dsimp only; omega)
     ·exact ⟨hI.step (by omega) hc2, fun a a0 a1 => (by rw [upd_ne _ _ (by omega), upd_ne _ _ (by omega)]; exact hg a a0 a1), fun a a0 a1 => (by unfold upd; split; rfl; split; rfl; exact hG a a0 a1), hO30⟩
   ·refine run_exit rfl <| run_inBlock <| run_region <| rl_v rfl rfl rfl (ov_move rfl rfl) <| rl_v rfl rfl rfl (ov_add rfl rfl rfl (by omega)) ?_
    refine rl_v rfl rfl rfl (ov_assign rfl rfl) <| rl_nil ?_
    refine Run.use (ih2 (i + 1) (g) (G) _ ?_ ?_) (And.intro (by exact slot_int rfl (by first | omega)) (And.intro rfl (And.intro rfl (And.intro rfl (And.intro rfl trivial)))))
    ·first | omega | (dsimp only; omega)
    ·exact ⟨by omega, hI.done fun h => c (cmpV_neg.2 h.2), hg, hG, (hQ.own)⟩
  ·refine rk_gskip rfl rfl rfl rfl rfl rfl <| rk_gskip rfl rfl rfl rfl rfl rfl <| rk_gskip rfl rfl rfl rfl rfl rfl <| rk_gskip rfl rfl rfl rfl rfl rfl <| rk_gskip rfl rfl rfl rfl rfl rfl <| rk_gskip rfl rfl rfl rfl rfl rfl <| rk_gskip rfl rfl rfl rfl rfl rfl <| rk_gskip rfl rfl rfl rfl rfl rfl <| rk_gskip rfl rfl rfl rfl rfl rfl <| rk_gskip rfl rfl rfl rfl rfl rfl <| rk_gskip rfl rfl rfl rfl rfl rfl <| rk_gskip rfl rfl rfl rfl rfl rfl <| rk_v rfl rfl rfl (fun wq hQ => ov_pick_f rfl rfl rfl) ?_
   refine rk_nil (fun w33 hQ => ?_)
   refine run_cond_f rfl <| run_exit rfl <| run_inBlock <| run_region <| rl_v rfl rfl rfl (ov_move rfl rfl) <| rl_v rfl rfl rfl (ov_add rfl rfl rfl (by omega)) ?_
   refine rl_v rfl rfl rfl (ov_assign rfl rfl) <| rl_nil ?_
   refine Run.use (ih2 (i + 1) (g) (G) _ ?_ ?_) (And.intro (by exact slot_int rfl (by first | omega)) (And.intro rfl (And.intro rfl (And.intro rfl (And.intro rfl trivial)))))
   ·first | omega | (dsimp only; omega)
   ·exact ⟨by omega, hI.done fun h => by omega, hg, hG, (hQ.own)⟩
 ·obtain rfl : i = n := by omega
  refine run_exit rfl <| run_end Try.func147 (res0 Try.results147) ?_
  exact ⟨rfl, G, g, hG, hs, hO⟩
theorem stable_any (b cap n bx rb B : Nat) (r g : Int → Int) (G : Int → Value) (H : List (Option Blk)) (w0 w : World) (hO : Own B w0 w (some (vch b 3 cap G) :: some (lch bx 225 [.slice (some ⟨rb, 0, none⟩) n n]) :: some (vch rb 90 n (fun k => .int .u64 (r k))) :: H))
  (hn : 1 ≤ n ∧ n < 20) (hc : n ≤ cap) (hG : ∀ i : Int, 0 ≤ i → i < n → G i = iv (g i)) (hg : ∀ i : Int, 0 ≤ i → i < n → g i = i) :
  Calls Try.prog 142 #[.slice (some ⟨b, 0, none⟩) n cap, iv n, .func (.func 139) #[] #[ptr bx]] w fun e w' => e = .returned (.tuple #[]) ∧ ∃ G' g', (∀ i : Int, 0 ≤ i → i < n → G' i = iv (g' i)) ∧ Srt r g' n ∧ Own B w0 w' (some (vch b 3 cap G') :: some (lch bx 225 [.slice (some ⟨rb, 0, none⟩) n n]) :: some (vch rb 90 n (fun k => .int .u64 (r k))) :: H) := by
 refine calls_of_run (F := [(0, _), (1, _), (2, _)]) Try.func142 rfl Try.ntmps142 rfl rfl <| run_seq <| run_region <| rl_v rfl rfl rfl (ov_assign rfl rfl) <| rl_nil <| run_seq <| run_region <| rl_v rfl rfl rfl (ov_move rfl rfl) <| rl_v rfl rfl rfl (ov_assign rfl rfl) <| rl_v rfl rfl rfl (ov_assign rfl rfl) <| rl_nil <| run_seq <| run_block <| run_once <| run_seq <| run_seq <| run_region <| rl_v rfl rfl rfl (ov_move rfl rfl) <| rl_v rfl rfl rfl (ov_move rfl rfl) <| rl_v rfl rfl rfl (ov_leq rfl rfl rfl) <| rl_nil ?_
 first | refine run_cond_dec rfl (fun q1 => ?_) (fun q1 => ?_) | refine run_cond rfl (fun q1 => ?_) (fun q1 => ?_)
 ·exfalso; omega
 ·refine run_exit rfl <| run_seq <| run_region <| rl_v rfl rfl rfl (ov_move rfl rfl) <| rl_v rfl rfl rfl (ov_move rfl rfl) <| rl_v rfl rfl rfl (ov_move rfl rfl) <| rl_v rfl rfl rfl (ov_move rfl rfl) ?_
  refine rl_call callable_147 rfl rfl rfl rfl rfl rfl (insertion_any b cap n bx rb B r g G H w0 w hO hn hc hG hg) (fun e1 w2 hp3 => ?_)
  obtain ⟨rfl, G', g', hG', hs, hO'⟩ := hp3
  refine ⟨_, rfl, ?_⟩
  refine rl_nil <| run_block <| run_once <| run_seq <| run_seq <| run_region <| rl_v rfl rfl rfl (ov_move rfl rfl) <| rl_v rfl rfl rfl (ov_move rfl rfl) <| rl_v rfl rfl rfl (ov_lss rfl rfl rfl) <| rl_nil ?_
  first | refine run_cond_dec rfl (fun q2 => ?_) (fun q2 => ?_) | refine run_cond rfl (fun q2 => ?_) (fun q2 => ?_)
  ·exfalso; omega
  ·refine run_exit rfl <| run_end Try.func142 (res0 Try.results142) ?_
   exact ⟨rfl, G', g', hG', hs, hO'⟩
theorem sortStable_any (b cap n bx rb B : Nat) (r g : Int → Int) (G : Int → Value) (H : List (Option Blk)) (w0 w : World) (hO : Own B w0 w (some (vch b 3 cap G) :: some (lch bx 225 [.slice (some ⟨rb, 0, none⟩) n n]) :: some (vch rb 90 n (fun k => .int .u64 (r k))) :: H))
  (hn : 1 ≤ n ∧ n < 20) (hc : n ≤ cap) (hG : ∀ i : Int, 0 ≤ i → i < n → G i = iv (g i)) (hg : ∀ i : Int, 0 ≤ i → i < n → g i = i) :
  Calls Try.prog 130 #[.slice (some ⟨b, 0, none⟩) n cap, .func (.func 139) #[] #[ptr bx]] w fun e w' => e = .returned (.tuple #[]) ∧ ∃ G' g', (∀ i : Int, 0 ≤ i → i < n → G' i = iv (g' i)) ∧ Srt r g' n ∧ Own B w0 w' (some (vch b 3 cap G') :: some (lch bx 225 [.slice (some ⟨rb, 0, none⟩) n n]) :: some (vch rb 90 n (fun k => .int .u64 (r k))) :: H) := by
 refine calls_of_run (F := [(0, _), (1, _)]) Try.func130 rfl Try.ntmps130 rfl rfl ?_
 have hO0 := Own.init w
 refine run_region <| rl_v rfl rfl rfl (ov_move rfl rfl) <| rl_v rfl rfl rfl (ov_move rfl rfl) <| rl_v rfl rfl rfl (ov_len rfl Try.underlying51 rfl) <| rl_v rfl rfl rfl (ov_move rfl rfl) ?_
 refine rl_call callable_142 rfl rfl rfl rfl rfl rfl (stable_any b cap n bx rb B r g G H w0 w hO hn hc hG hg) (fun e1 w2 hp3 => ?_)
 obtain ⟨rfl, G', g', hG', hs, hO'⟩ := hp3
 refine ⟨_, rfl, ?_⟩
 refine rl_nil <| run_end Try.func130 (res0 Try.results130) ?_
 exact ⟨rfl, G', g', hG', hs, hO'⟩
theorem upd_lt {f : Int → Int} {k x : Int} (hx : x = f k) (i : Int) : upd (fun i => if i < k then f i else 0) k x i = if i < k + 1 then f i else 0 := by
 unfold upd
 by_cases e : i = k
 ·rw [if_pos e, if_pos (by omega), e, hx]
 ·rw [if_neg e]
  dsimp only
  by_cases c : i < k
  ·rw [if_pos c, if_pos (by omega)]
  ·rw [if_neg c, if_neg (by omega)]
theorem upd_ltU {f : Int → Int} {k x : Int} (hx : x = f k) (i : Int) : upd (fun i => Value.int .u64 (if i < k then f i else 0)) k (.int .u64 x) i = .int .u64 (if i < k + 1 then f i else 0) := by
 rw [← upd_lt hx i]
 unfold upd
 split <;> rfl
def qoF (total : Int) (n : Nat) (W : Int → Int) (i : Int) : Int := total * W i / sm W n
def reF (total : Int) (n : Nat) (W : Int → Int) (i : Int) : Int := total * W i % sm W n
theorem dealt_any (total : Int) (ao : Option Addr) (n c B : Nat) (W : Int → Int) (H : List (Option Blk)) (w0 w : World) (hO : Own B w0 w H) (hs : SrcI H ao n W) (hn : n < 20) (hW : ∀ i : Int, 0 ≤ i → i < n → 0 ≤ W i ∧ W i ≤ 100000000000000000) (ht : 0 ≤ total ∧ total ≤ sm W n) :
  Calls Try.prog 112 #[iv total, .slice ao n c] w fun e w' => ∃ b out, e = .returned (.slice (some ⟨b, 0, none⟩) n n) ∧ Shr total n W out ∧ Own B w0 w' (some (vch b 2 n (fun i => iv (out i))) :: H) := by
 have hSn : ∀ k : Int, 0 ≤ k → k ≤ n → 0 ≤ sm W k ∧ sm W k ≤ k * 100000000000000000 := fun k k0 k1 => ⟨sm_nonneg fun i i0 i1 => (hW i i0 (by omega)).1, sm_bound _ k0 fun i i0 i1 => (hW i i0 (by omega)).2⟩
 have hSN := hSn n (by omega) (by omega)
 obtain ⟨gb, go, hga, hrow⟩ := (hs B w0 w hO).open
 refine calls_of_run (F := [(0, _), (1, _)]) Try.func112 rfl Try.ntmps112 rfl rfl <| run_seq <| run_region <| rl_v rfl rfl rfl (ov_assign rfl rfl) <| rl_nil <| run_seq <| run_region <| rl_v rfl rfl rfl (ov_move rfl rfl) <| rl_v rfl rfl rfl (ov_assign rfl rfl) <| rl_nil <| run_seq <| run_seq <| run_region <| rl_v rfl rfl rfl (ov_move rfl rfl) <| rl_v rfl rfl rfl (ov_len rfl Try.underlying22 rfl) <| rl_v rfl rfl rfl (ov_move rfl rfl) <| rl_nil <| run_block <| Run.keep [0, 1, 5, 21, 22, 23] (F' := [(0, _), (1, _), (5, _), (21, _), (22, _), (23, _)]) rfl <| run_loop1 (fun (k : Int) => [(5, .int .i64 (sm W k)), (23, .int .i64 k)]) [0, 1, 21, 22] (fun (k : Int) (w1 : World) => (0 ≤ k ∧ k ≤ n) ∧ Own B w0 w1 H) (fun (k : Int) => ((n : Int) - k).toNat) (0) ?_ (And.intro (by rfl) (And.intro (by exact slot_int rfl (by first | omega)) (And.intro rfl (And.intro rfl (And.intro rfl (And.intro rfl trivial)))))) ?_
 ·exact ⟨by omega, hO⟩
 intro k w1 hIw1 ih2
 obtain ⟨hk, hO1⟩ := hIw1
 show Run _ _ _ _ [(5, _), (23, _), (0, _), (1, _), (21, _), (22, _)] _ _
 refine run_seq <| run_region <| rl_v rfl rfl rfl (ov_lss rfl rfl rfl) <| rl_nil <| run_seq ?_
 first | refine run_cond_dec rfl (fun h1 => ?_) (fun h1 => ?_) | refine run_cond rfl (fun h1 => ?_) (fun h1 => ?_)
 ·obtain ⟨gb, go, hga, hrow⟩ := (hs B w0 w1 hO1).open
  have hk1 := hSn k (by omega) (by omega)
  have hwk := hW k (by omega) (by omega)
  have hsu := sm_succ W (k := k) (by omega)
  refine run_skip <| run_seq <| run_block <| run_seq <| run_region <| rl_v rfl rfl rfl (ov_index1 rfl Try.underlying22 (by kernel_rfl) rfl rfl ⟨by omega, by omega⟩ (by exact (hga (by omega)))) ?_
  refine rl_v rfl rfl rfl (ov_load rfl Try.underlying2 rfl rfl (by exact hrow _ (Below.refl _ _) k (by omega) (by omega))) ?_
  refine rl_v rfl rfl rfl (ov_assign rfl rfl) <| rl_nil <| run_region <| rl_v rfl rfl rfl (ov_move rfl rfl) <| rl_v rfl rfl rfl (ov_move rfl rfl) <| rl_v rfl rfl rfl (ov_add rfl rfl rfl (by omega)) ?_
  refine rl_v rfl rfl rfl (ov_assign rfl rfl) <| rl_nil <| run_inBlock <| run_region <| rl_v rfl rfl rfl (ov_add rfl rfl rfl (by omega)) ?_
  refine rl_v rfl rfl rfl (ov_move rfl rfl) <| rl_nil ?_
  refine Run.use (ih2 (k + 1) _ ?_ ?_) (And.intro (by exact slot_int rfl (by first | omega)) (And.intro (by exact slot_int rfl (by first | omega)) (And.intro rfl (And.intro rfl (And.intro rfl (And.intro rfl trivial))))))
  ·first | omega | (dsimp only; omega)
  ·exact ⟨by omega, hO1⟩
 ·obtain rfl : k = n := by omega
  refine run_exit rfl <| run_seq <| run_region <| rl_v rfl rfl rfl (ov_move rfl rfl) <| rl_v rfl rfl rfl (ov_len rfl Try.underlying22 rfl) <| rl_ow rfl (ow_make (n) rfl rfl rfl Try.underlying22 info_2 rfl hO1 rfl rfl (by rfl) (by rfl) ⟨by omega, by omega⟩) ?_
  rintro _ w3 ⟨b33, rfl, hO4, hs5⟩
  refine rl_v rfl rfl rfl (ov_assign rfl rfl) <| rl_nil <| run_seq <| run_seq <| run_region <| rl_v rfl rfl rfl (ov_move rfl rfl) <| rl_v rfl rfl rfl (ov_eql rfl rfl rfl) <| rl_nil ?_
  first | refine run_cond_dec rfl (fun hz => ?_) (fun hz => ?_) | refine run_cond rfl (fun hz => ?_) (fun hz => ?_)
  ·refine run_seq <| run_region <| rl_v rfl rfl rfl (ov_move rfl rfl) <| rl_v rfl rfl rfl (ov_assign rfl rfl) <| rl_nil <| run_ret Try.func112 (res1 Try.results112 rfl) ?_
   exact ⟨b33, fun _ => 0, rfl, ⟨by rw [if_pos hz, sm_const 0 (by omega)]; omega, fun i _ _ => .inl (by rw [hz, Int.ediv_zero]), fun i j _ _ _ _ e _ => (by rw [hz, Int.ediv_zero] at e; omega)⟩, hO4⟩
  ·have hn1 : 1 ≤ n := by
    refine Classical.byContradiction fun hx => hz ?_
    rw [show (n : Int) = 0 by omega]
    rfl
   have hS1 : 0 < sm W n := by omega
   have hq0 : ∀ i : Int, 0 ≤ i → i < n → 0 ≤ qoF total n W i ∧ qoF total n W i ≤ 100000000000000000 := fun i i0 i1 => by
    have h1 := hW i i0 i1
    refine ⟨Int.ediv_nonneg (Int.mul_nonneg ht.1 h1.1) (by omega), ?_⟩
    refine Int.le_trans (Int.ediv_le_of_le_mul hS1 (b := W i) ?_) h1.2
    rw [Int.mul_comm (W i)]
    exact Int.mul_le_mul_of_nonneg_right ht.2 h1.1
   have hqs : ∀ k : Int, 0 ≤ k → k ≤ n → 0 ≤ sm (qoF total n W) k ∧ sm (qoF total n W) k ≤ k * 100000000000000000 := fun k k0 k1 => ⟨sm_nonneg fun i i0 i1 => (hq0 i i0 (by omega)).1, sm_bound _ k0 fun i i0 i1 => (hq0 i i0 (by omega)).2⟩
   refine run_skip <| run_seq <| run_region <| rl_v rfl rfl rfl (ov_move rfl rfl) <| rl_v rfl rfl rfl (ov_len rfl Try.underlying22 rfl) <| rl_ow rfl (ow_make (n) rfl rfl rfl Try.underlying225 info_90 rfl hO4 rfl rfl (by rfl) (by rfl) ⟨by omega, by omega⟩) ?_
   rintro _ w6 ⟨b39, rfl, hO7, hs8⟩
   refine rl_ow rfl (ow_alloc _ rfl rfl rfl zero_225 rfl hO7) ?_
   rintro _ w9 ⟨b9, rfl, hO10, hs11⟩
   refine rl_ow rfl (ow_storeL rfl rfl (by kernel_rfl) hO10 0 rfl rfl rfl rfl rfl) ?_
   rintro _ w12 ⟨rfl, hO13, hs14⟩
   have hs0 : sm (qoF total n W) 0 = 0 := rfl
   refine rl_nil <| run_seq <| run_region <| rl_v rfl rfl rfl (ov_assign rfl rfl) <| rl_nil <| run_seq <| run_region <| rl_v rfl rfl rfl (ov_move rfl rfl) <| rl_v rfl rfl rfl (ov_assign rfl rfl) <| rl_nil <| run_seq <| run_seq <| run_region <| rl_v rfl rfl rfl (ov_move rfl rfl) <| rl_v rfl rfl rfl (ov_len rfl Try.underlying22 rfl) <| rl_v rfl rfl rfl (ov_move rfl rfl) <| rl_nil <| run_block <| Run.keep [0, 5, 8, 9, 10, 11, 41, 42, 43] (F' := [(0, _), (5, _), (8, _), (9, _), (10, _), (11, _), (41, _), (42, _), (43, _)]) rfl <| run_loop4 (fun (k : Int) (kn : Nat) (v10 : Value) (c10 : Option Blk) => [(10, v10), (11, .int .i64 (total - sm (qoF total n W) k)), (43, .int .i64 k)]) [0, 5, 8, 9, 41, 42] (fun (k : Int) (kn : Nat) (v10 : Value) (c10 : Option Blk) (w15 : World) => k = kn ∧ kn ≤ n ∧ IRow v10 3 kn (fun i => iv i) c10 ∧ Own B w0 w15 (c10 :: some (lch b9 225 [.slice (some ⟨b39, 0, none⟩) n n]) :: some (vch b39 90 n (fun i => .int .u64 (if i < k then reF total n W i else 0))) :: some (vch b33 2 n (fun i => iv (if i < k then qoF total n W i else 0))) :: H)) (fun (k : Int) (kn : Nat) (v10 : Value) (c10 : Option Blk) => n - kn) (0) (0) (.slice none 0 0) (none) ?_ (And.intro rfl (And.intro (by exact slot_int rfl (by first | omega)) (And.intro (by exact slot_int rfl (by first | omega)) (And.intro rfl (And.intro rfl (And.intro rfl (And.intro rfl (And.intro rfl (And.intro rfl trivial))))))))) ?_
   ·exact ⟨rfl, by omega, IRow.nil _ _, ((hO13.congrI 1 rfl (G' := fun i => .int .u64 (if i < (0 : Int) then reF total n W i else 0)) (fun i i0 _ => by rw [if_neg (by omega)])).congrI 2 rfl (G' := fun i => iv (if i < (0 : Int) then qoF total n W i else 0)) (fun i i0 _ => by rw [if_neg (by omega)])).nil_cons⟩
   intro k kn v10 c10 w15 hIw15 ih16
   obtain ⟨hk, hkn, hr10, hO2⟩ := hIw15
   show Run _ _ _ _ [(10, _), (11, _), (43, _), (0, _), (5, _), (8, _), (9, _), (41, _), (42, _)] _ _
   refine run_seq <| run_region <| rl_v rfl rfl rfl (ov_lss rfl rfl rfl) <| rl_nil <| run_seq ?_
   first | refine run_cond_dec rfl (fun h2 => ?_) (fun h2 => ?_) | refine run_cond rfl (fun h2 => ?_) (fun h2 => ?_)
   ·obtain ⟨gb, go, hga, hrow⟩ := (hs B w0 w15 hO2.tail.tail.tail.tail).open
    have hwk := hW k (by omega) (by omega)
    have hqk := hq0 k (by omega) (by omega)
    have hqk1 := hqs k (by omega) (by omega)
    have hsu := sm_succ (qoF total n W) (k := k) (by omega)
    have hprod : total.toNat * (W k).toNat / 18446744073709551616 < (sm W n).toNat := by
     refine (Nat.div_lt_iff_lt_mul (by omega)).2 ?_
     refine Nat.lt_of_le_of_lt (Nat.mul_le_mul_right _ (show total.toNat ≤ (sm W n).toNat by omega)) ?_
     exact Nat.mul_lt_mul_of_pos_left (by omega) (by omega)
    have eall : total.toNat * (W k).toNat / 18446744073709551616 * 18446744073709551616 + total.toNat * (W k).toNat % 18446744073709551616 = total.toNat * (W k).toNat := Nat.div_add_mod' _ _
    have ecast : ((total.toNat * (W k).toNat : Nat) : Int) = total * W k := by rw [Int.natCast_mul, Int.toNat_of_nonneg ht.1, Int.toNat_of_nonneg hwk.1]
    have eS : (((sm W n).toNat : Nat) : Int) = sm W n := Int.toNat_of_nonneg (by omega)
    have eq1 : (((total.toNat * (W k).toNat / 18446744073709551616 * 18446744073709551616 + total.toNat * (W k).toNat % 18446744073709551616) / (sm W n).toNat : Nat) : Int) = qoF total n W k := by rw [eall, Int.natCast_ediv, ecast, eS]; rfl
    have eq2 : (((total.toNat * (W k).toNat / 18446744073709551616 * 18446744073709551616 + total.toNat * (W k).toNat % 18446744073709551616) % (sm W n).toNat : Nat) : Int) = reF total n W k := by rw [eall, Int.natCast_emod, ecast, eS]; rfl
    refine run_skip <| run_seq <| run_block <| run_seq <| run_region <| rl_v rfl rfl rfl (ov_move rfl rfl) <| rl_v rfl rfl rfl (ov_index1 rfl Try.underlying22 (by kernel_rfl) rfl rfl ⟨by omega, by omega⟩ (by exact (hga (by omega)))) ?_
    refine rl_v rfl rfl rfl (ov_load rfl Try.underlying2 rfl rfl (by exact hrow _ (Below.refl _ _) k (by omega) (by omega))) ?_
    refine rl_v rfl rfl rfl (ov_assign rfl rfl) <| rl_v rfl rfl rfl (ov_assign rfl rfl) <| rl_nil <| run_seq <| run_region <| rl_v rfl rfl rfl (ov_move rfl rfl) <| rl_v rfl rfl rfl (nv (ov_conv rfl Try.underlying2 Try.underlying90 rfl) (wPos ht.1 (by omega))) ?_
    refine rl_v rfl rfl rfl (ov_move rfl rfl) <| rl_v rfl rfl rfl (nv (ov_conv rfl Try.underlying2 Try.underlying90 rfl) (wPos hwk.1 (by omega))) ?_
    refine rl_call callable_126 rfl rfl rfl rfl rfl rfl (mul64_any total.toNat (W k).toNat w15 (by omega) (by omega)) (fun e17 w18 hp19 => ?_)
    obtain ⟨rfl, hw⟩ := hp19
    refine ⟨_, rfl, ?_⟩
    subst hw
    refine rl_v rfl rfl rfl (ov_move rfl rfl) <| rl_v rfl rfl rfl (ov_extract rfl rfl (by rfl)) ?_
    refine rl_v rfl rfl rfl (ov_extract rfl rfl (by rfl)) ?_
    refine rl_v rfl rfl rfl (ov_assign rfl rfl) <| rl_v rfl rfl rfl (ov_assign rfl rfl) <| rl_nil <| run_seq <| run_region <| rl_v rfl rfl rfl (ov_move rfl rfl) <| rl_v rfl rfl rfl (ov_move rfl rfl) <| rl_v rfl rfl rfl (ov_move rfl rfl) <| rl_v rfl rfl rfl (nv (ov_conv rfl Try.underlying2 Try.underlying90 rfl) (wPos (by omega) (by omega))) ?_
    refine rl_call callable_128 rfl rfl rfl rfl rfl rfl (div64_any (total.toNat * (W k).toNat / 18446744073709551616) (total.toNat * (W k).toNat % 18446744073709551616) (sm W n).toNat w18 hprod (by omega) (Nat.mod_lt _ (by omega))) (fun e20 w21 hp22 => ?_)
    obtain ⟨rfl, hbl⟩ := hp22
    refine ⟨_, rfl, ?_⟩
    have hO23 := hO2.past hbl
    refine rl_v rfl rfl rfl (ov_move rfl rfl) <| rl_v rfl rfl rfl (ov_extract rfl rfl (by rfl)) ?_
    refine rl_v rfl rfl rfl (ov_extract rfl rfl (by rfl)) ?_
    refine rl_v rfl rfl rfl (ov_assign rfl rfl) <| rl_v rfl rfl rfl (ov_assign rfl rfl) <| rl_nil <| run_seq <| run_held (fun w' => Own B w0 w' ([some (lch b9 225 [.slice (some ⟨b39, 0, none⟩) n n])])) mixed ?_
    have hO25 := hO23.drew
    generalize World.drew w21 = w24 at hO25 ⊢
    have hS26 : Own B w0 w24 ([some (lch b9 225 [.slice (some ⟨b39, 0, none⟩) n n])]) := by exact hO25.sub (.cons _ (.cons_cons _ (List.nil_sublist _)))
    refine rh_v 0 rfl (by kernel_rfl) rfl rfl rfl hS26 (fun _ hS => ov_move rfl rfl) ?_
    refine rh_v 1 rfl (by kernel_rfl) rfl rfl rfl hS26 (fun _ hS => ov_move rfl rfl) ?_
    refine rh_v 2 rfl (by kernel_rfl) rfl rfl rfl hS26 (fun _ hS => ov_load rfl Try.underlying225 rfl rfl (by exact hS.cellL 0 rfl (off := 0) rfl)) ?_
    refine rh_v 3 rfl (by kernel_rfl) rfl rfl rfl hS26 (fun _ hS => ov_move rfl rfl) ?_
    refine rh_v 4 rfl (by kernel_rfl) rfl rfl rfl hS26 (fun _ hS => ov_move rfl rfl) ?_
    refine rh_v 5 rfl (by kernel_rfl) rfl rfl rfl hS26 (fun _ hS => nv (ov_conv rfl Try.underlying90 Try.underlying2 rfl) (iPos eq1 (by omega) hqk.1)) ?_
    refine rh_v 6 rfl (by kernel_rfl) rfl rfl rfl hS26 (fun _ hS => ov_move rfl rfl) ?_
    refine rh_v 7 rfl (by kernel_rfl) rfl rfl rfl hS26 (fun _ hS => ov_index1 rfl Try.underlying22 (by kernel_rfl) rfl rfl ⟨by omega, by omega⟩ (by rfl)) ?_
    refine rh_any1 8 (by kernel_rfl) ?_
    refine rc_op rfl rfl (ow_storeI rfl rfl (by kernel_rfl) hO25 3 rfl rfl ⟨by omega, by omega⟩ rfl) ?_
    rintro _ w27 ⟨rfl, hO28, hs29⟩
    have hS30 : Own B w0 w27 ([some (lch b9 225 [.slice (some ⟨b39, 0, none⟩) n n])]) := by exact hO28.sub (.cons _ (.cons_cons _ (List.nil_sublist _)))
    refine ⟨hS30, ?_⟩
    refine rh_v 9 rfl (by kernel_rfl) rfl rfl rfl hS30 (fun _ hS => ov_index1 rfl Try.underlying225 (by kernel_rfl) rfl rfl ⟨by omega, by omega⟩ (by rfl)) ?_
    refine rh_any1 10 (by kernel_rfl) ?_
    refine rc_op rfl rfl (ow_store rfl rfl (by kernel_rfl) hO28 2 rfl rfl ⟨by omega, by omega⟩ rfl rfl) ?_
    rintro _ w31 ⟨rfl, hO32, hs33⟩
    have hS34 : Own B w0 w31 ([some (lch b9 225 [.slice (some ⟨b39, 0, none⟩) n n])]) := by exact hO32.sub (.cons _ (.cons_cons _ (List.nil_sublist _)))
    refine ⟨hS34, ?_⟩
    refine rh_done (by kernel_rfl) ?_
    refine run_seq <| run_region <| rl_v rfl rfl rfl (ov_move rfl rfl) <| rl_v rfl rfl rfl (ov_move rfl rfl) <| rl_v rfl rfl rfl (nv (ov_conv rfl Try.underlying90 Try.underlying2 rfl) (iPos eq1 (by omega) hqk.1)) ?_
    refine rl_v rfl rfl rfl (ov_sub rfl rfl rfl (by omega)) ?_
    refine rl_v rfl rfl rfl (ov_assign rfl rfl) <| rl_nil <| run_region <| rl_v rfl rfl rfl (ov_move rfl rfl) <| rl_v rfl rfl rfl (ov_move rfl rfl) ?_
    refine rl_appI rfl rfl rfl rfl rfl rfl rfl rfl Try.underlying51 info_3 rfl hO32 0 hr10 rfl rfl rfl ⟨by omega, by omega⟩ (fun v11 c11 w35 hO36 hr11 hs37 => ?_)
    refine rl_v rfl rfl rfl (ov_assign rfl rfl) <| rl_nil <| run_inBlock <| run_region <| rl_v rfl rfl rfl (ov_add rfl rfl rfl (by omega)) ?_
    refine rl_v rfl rfl rfl (ov_move rfl rfl) <| rl_nil ?_
    refine Run.use (ih16 (k + 1) (kn + 1) (v11) (c11) _ ?_ ?_) (And.intro rfl (And.intro (by exact slot_int rfl (by first | omega)) (And.intro (by exact slot_int rfl (by first | omega)) (And.intro rfl (And.intro rfl (And.intro rfl (And.intro rfl (And.intro rfl (And.intro rfl trivial)))))))))
    ·first | omega | (dsimp only; omega)
    ·exact ⟨by omega, by omega, hr11.congr fun i i0 i1 => (by unfold upd; split; (rename_i e; rw [e, hk]); rfl), ((hO36.congrI 2 rfl (G' := fun i => .int .u64 (if i < k + 1 then reF total n W i else 0)) (fun i _ _ => upd_ltU eq2 i)).congrI 3 rfl (G' := fun i => iv (if i < k + 1 then qoF total n W i else 0)) (fun i _ _ => congrArg iv (upd_lt rfl i)))⟩
   ·obtain rfl : n = kn := by omega
    obtain rfl := hk
    have hO3 := (hO2.congrI 2 rfl (G' := fun i => .int .u64 (reF total n W i)) (fun i _ i1 => by rw [if_pos i1])).congrI 3 rfl (G' := fun i => iv (qoF total n W i)) (fun i _ i1 => by rw [if_pos i1])
    obtain ⟨a10, x10, rfl⟩ := hr10.val
    obtain ⟨b10, G10, rfl, hcap, hmax, rfl, hG10⟩ := hr10.asV hn1
    have hleft := left_rng (W := W) (total := total) (fun i i0 i1 => (hW i i0 i1).1) hS1 ht.1
    refine run_exit rfl <| run_seq <| run_region <| rl_v rfl rfl rfl (ov_move rfl rfl) <| rl_v rfl rfl rfl (ov_func rfl rfl rfl) ?_
    refine rl_call callable_130 rfl rfl rfl rfl rfl rfl (sortStable_any b10 x10 n b9 b39 B (reF total n W) (fun i => i) G10 _ w0 w15 hO3 ⟨hn1, hn⟩ hcap hG10 (fun _ _ _ => rfl)) (fun e38 w39 hp40 => ?_)
    obtain ⟨rfl, G', g', hG', hsrt, hO4⟩ := hp40
    refine ⟨_, rfl, ?_⟩
    have hlq : 0 ≤ total - sm (qoF total n W) n ∧ total - sm (qoF total n W) n < n := hleft
    refine rl_nil <| run_seq <| run_seq <| run_region <| rl_v rfl rfl rfl (ov_move rfl rfl) <| rl_v rfl rfl rfl (ov_move rfl rfl) <| rl_v rfl rfl rfl (ov_sliceH ((total - sm (qoF total n W) n).toNat) (s := 1) rfl Try.underlying51 (by kernel_rfl) rfl rfl (by omega) (by omega)) ?_
    refine rl_v rfl rfl rfl (ov_len rfl Try.underlying51 rfl) <| rl_v rfl rfl rfl (ov_move rfl rfl) <| rl_nil <| run_block <| Run.keep [8, 87, 88, 89] (F' := [(8, _), (87, _), (88, _), (89, _)]) rfl <| run_loop2 (fun (k : Int) (out : Int → Int) => [(89, .int .i64 k)]) [8, 87, 88] (fun (k : Int) (out : Int → Int) (w41 : World) => (0 ≤ k ∧ k ≤ total - sm (qoF total n W) n) ∧ Giv (qoF total n W) g' n k out ∧ Own B w0 w41 (some (vch b10 3 x10 G') :: some (lch b9 225 [.slice (some ⟨b39, 0, none⟩) n n]) :: some (vch b39 90 n (fun i => .int .u64 (reF total n W i))) :: some (vch b33 2 n (fun i => iv (out i))) :: H)) (fun (k : Int) (out : Int → Int) => (total - sm (qoF total n W) n - k).toNat) (0) (qoF total n W) ?_ (And.intro (by exact slot_int rfl (by first | omega)) (And.intro rfl (And.intro rfl (And.intro rfl trivial)))) ?_
    ·exact ⟨by omega, Giv.init (fun _ _ _ => rfl) hsrt.pm, hO4⟩
    intro k out w41 hIw41 ih42
    obtain ⟨hk, hgv, hO5⟩ := hIw41
    show Run _ _ _ _ [(89, _), (8, _), (87, _), (88, _)] _ _
    refine run_seq <| run_region <| rl_v rfl rfl rfl (ov_lss rfl rfl rfl) <| rl_nil <| run_seq ?_
    first | refine run_cond_dec rfl (fun h4 => ?_) (fun h4 => ?_) | refine run_cond rfl (fun h4 => ?_) (fun h4 => ?_)
    ·have hgk := hsrt.pm.1 k hk.1 (by omega)
     have hno := hgv.no k (Int.le_refl _) (by omega)
     have hqb := hq0 (g' k) hgk.1 hgk.2
     refine run_skip <| run_seq <| run_block <| run_seq <| run_region <| rl_v rfl rfl rfl (ov_index1 rfl Try.underlying51 (by kernel_rfl) rfl rfl ⟨by omega, by omega⟩ (by rfl)) ?_
     refine rl_v rfl rfl rfl (ov_load rfl Try.underlying3 rfl rfl (by exact (hO5.cellI 0 rfl k (by omega) (by omega)).trans (congrArg some (hG' k (by omega) (by omega))))) ?_
     refine rl_v rfl rfl rfl (ov_assign rfl rfl) <| rl_nil <| run_region <| rl_v rfl rfl rfl (ov_move rfl rfl) <| rl_v rfl rfl rfl (ov_move rfl rfl) <| rl_v rfl rfl rfl (ov_index1 rfl Try.underlying22 (by kernel_rfl) rfl rfl ⟨by omega, by omega⟩ (by rfl)) ?_
     refine rl_v rfl rfl rfl (ov_load rfl Try.underlying2 rfl rfl (by exact hO5.cellI 3 rfl (g' k) hgk.1 hgk.2)) ?_
     refine rl_v rfl rfl rfl (ov_add rfl rfl rfl (by omega)) ?_
     refine rl_v rfl rfl rfl (ov_index1 rfl Try.underlying22 (by kernel_rfl) rfl rfl ⟨by omega, by omega⟩ (by rfl)) ?_
     refine rl_ow rfl (ow_storeI rfl rfl (by kernel_rfl) hO5 3 rfl rfl ⟨by omega, by omega⟩ rfl) ?_
     rintro _ w43 ⟨rfl, hO44, hs45⟩
     refine rl_nil <| run_inBlock <| run_region <| rl_v rfl rfl rfl (ov_add rfl rfl rfl (by omega)) ?_
     refine rl_v rfl rfl rfl (ov_move rfl rfl) <| rl_nil ?_
     refine Run.use (ih42 (k + 1) (upd out (g' k) (out (g' k) + 1)) _ ?_ ?_) (And.intro (by exact slot_int rfl (by first | omega)) (And.intro rfl (And.intro rfl (And.intro rfl trivial))))
     ·first | omega | (dsimp only; omega)
     ·exact ⟨by omega, hgv.step hsrt hk.1 (by omega), hO44⟩
    ·obtain rfl : k = total - sm (qoF total n W) n := by omega
     refine run_exit rfl <| run_seq <| run_region <| rl_v rfl rfl rfl (ov_move rfl rfl) <| rl_v rfl rfl rfl (ov_assign rfl rfl) <| rl_nil <| run_ret Try.func112 (res1 Try.results112 rfl) ?_
     exact ⟨b33, out, rfl, Giv.shr hsrt hz rfl hlq.1 hgv, hO5.tail.tail.tail⟩
end Go.Proofs.Ytfbbagnpdfafjaa
