import Derived.Test.YtbcjfjldmfljgaaGreatGbH
import Derived.Test.YtbcjfjldmfljgaaGreatGaQ
set_option maxRecDepth 100000
namespace Go.Proofs.YtbcjfjldmfljgaaGreat
open Go.RowKit Go.Proofs Go.MapKept
def CmpS (gf : Nat) (caps : Array Value) (f Y : Int → Int) (n B : Nat) (w0 : World) (H : List (Option Blk)) : Prop :=
 ∀ (a b : Int) (w : World), (∃ i : Int, (0 ≤ i ∧ i < n) ∧ Y i = a) → (∃ i : Int, (0 ≤ i ∧ i < n) ∧ Y i = b) → Own B w0 w H → Calls Tryz.prog gf (#[iv a, iv b] ++ caps) w fun e w' => e = .returned (iv (f a - f b)) ∧ Own w.heap.size w w' []
theorem insNone7_any (gv : Value) (va : Option Addr) (cap n lo : Nat) (w : World) (hn : n ≤ 1000) (hlo : n ≤ lo + 1 ∧ lo ≤ 1000) :
  Calls Tryz.prog 54 #[.slice va n cap, iv lo, iv n, gv] w fun e w' => e = .returned (.tuple #[]) ∧ Own w.heap.size w w' [] := by
 refine calls_of_run (F := [(0, _), (1, _), (2, _), (3, _)]) Tryz.func54 rfl Tryz.ntmps54 rfl rfl ?_
 have hO0 := Own.init w
 refine run_seq <| run_region <| rl_v rfl rfl rfl (ov_move rfl rfl) <| rl_v rfl rfl rfl (ov_add rfl rfl rfl (by omega)) ?_
 refine rl_v rfl rfl rfl (ov_assign rfl rfl) <| rl_nil <| run_block <| run_once <| run_seq <| run_seq <| run_region <| rl_v rfl rfl rfl (ov_move rfl rfl) <| rl_v rfl rfl rfl (ov_move rfl rfl) <| rl_v rfl rfl rfl (ov_lss rfl rfl rfl) <| rl_nil ?_
 first | refine run_cond_dec rfl (fun q1 => ?_) (fun q1 => ?_) | refine run_cond rfl (fun q1 => ?_) (fun q1 => ?_)
 ·exfalso; omega
 ·refine run_exit rfl <| run_end Tryz.func54 (res0 Tryz.results54) ?_
  exact ⟨rfl, hO0⟩
set_option maxHeartbeats 4000000 in
theorem insertion7_any (gf : Nat) (hcl : Callable Tryz.prog gf) (caps : Array Value) (f Y : Int → Int) (b cap n B : Nat) (G : Int → Value) (H : List (Option Blk)) (w0 w : World) (hO : Own B w0 w (some (vch b 3 cap G) :: H)) (hcmp : ∀ G, CmpS gf caps f Y n B w0 (some (vch b 3 cap G) :: H))
  (hn : 1 ≤ n ∧ n ≤ 20) (hc : n ≤ cap) (g : Int → Int) (hG : ∀ i : Int, 0 ≤ i → i < n → G i = iv (g i)) (hg : ∀ i : Int, 0 ≤ i → i < n → g i = Y i) (hY : ∀ a b : Int, 0 ≤ a → a < b → b < n → Y a < Y b) :
  Calls Tryz.prog 54 #[.slice (some ⟨b, 0, none⟩) n cap, iv 0, iv n, .func (.func gf) #[] caps] w fun e w' => e = .returned (.tuple #[]) ∧ ∃ G' g', (∀ i : Int, 0 ≤ i → i < n → G' i = iv (g' i)) ∧ SrtS f Y n g' n ∧ Own B w0 w' (some (vch b 3 cap G') :: H) := by
 refine calls_of_run (F := [(0, _), (1, _), (2, _), (3, _)]) Tryz.func54 rfl Tryz.ntmps54 rfl rfl <| run_seq <| run_region <| rl_v rfl rfl rfl (ov_move rfl rfl) <| rl_v rfl rfl rfl (ov_add rfl rfl rfl (by omega)) ?_
 refine rl_v rfl rfl rfl (ov_assign rfl rfl) <| rl_nil <| run_block <| Run.keep [0, 1, 2, 3, 8] (F' := [(0, _), (1, _), (2, _), (3, _), (8, _)]) rfl <| run_loop3 (fun (i : Int) (g : Int → Int) (G : Int → Value) => [(8, .int .i64 i)]) [0, 1, 2, 3] (fun (i : Int) (g : Int → Int) (G : Int → Value) (w1 : World) => (1 ≤ i ∧ i ≤ n) ∧ SrtS f Y n g i ∧ (∀ a : Int, 0 ≤ a → a < n → G a = iv (g a)) ∧ Own B w0 w1 (some (vch b 3 cap G) :: H)) (fun (i : Int) (g : Int → Int) (G : Int → Value) => ((n : Int) - i).toNat) (1) (g) (G) ?_ (And.intro (by exact slot_int rfl (by first | omega)) (And.intro rfl (And.intro rfl (And.intro rfl (And.intro rfl trivial))))) ?_
 ·exact ⟨by omega, SrtS.init hg hY, hG, hO⟩
 intro i g G w1 hIw1 ih2
 obtain ⟨hi, hs, hG, hO⟩ := hIw1
 show Run _ _ _ _ [(8, _), (0, _), (1, _), (2, _), (3, _)] _ _
 refine run_seq <| run_seq <| run_region <| rl_v rfl rfl rfl (ov_move rfl rfl) <| rl_v rfl rfl rfl (ov_move rfl rfl) <| rl_v rfl rfl rfl (ov_lss rfl rfl rfl) <| rl_nil ?_
 first | refine run_cond_dec rfl (fun h1 => ?_) (fun h1 => ?_) | refine run_cond rfl (fun h1 => ?_) (fun h1 => ?_)
 ·refine run_skip <| run_seq <| run_block <| run_seq <| run_region <| rl_v rfl rfl rfl (ov_move rfl rfl) <| rl_v rfl rfl rfl (ov_assign rfl rfl) <| rl_nil <| run_block <| Run.keep [0, 1, 2, 3, 8, 9] (F' := [(0, _), (1, _), (2, _), (3, _), (8, _), (9, _)]) rfl <| run_loop3 (fun (j : Int) (g : Int → Int) (G : Int → Value) => [(9, .int .i64 j)]) [0, 1, 2, 3, 8] (fun (j : Int) (g : Int → Int) (G : Int → Value) (w3 : World) => InsS f Y n g i j ∧ (∀ a : Int, 0 ≤ a → a < n → G a = iv (g a)) ∧ Own B w0 w3 (some (vch b 3 cap G) :: H)) (fun (j : Int) (g : Int → Int) (G : Int → Value) => j.toNat) (i) (g) (G) ?_ (And.intro (by exact slot_int rfl (by first | omega)) (And.intro rfl (And.intro rfl (And.intro rfl (And.intro rfl (And.intro rfl trivial)))))) ?_
  ·exact ⟨hs.ins hY (by omega) h1, hG, hO⟩
  intro j g G w3 hIw3 ih4
  obtain ⟨hI, hG, hO⟩ := hIw3
  show Run _ _ _ _ [(9, _), (0, _), (1, _), (2, _), (3, _), (8, _)] _ _
  have hj := hI.rng
  refine run_seq <| run_seq <| run_class (ClU B w0 (some (vch b 3 cap G) :: H)) (⟨hO.drew⟩) mixed (by kernel_rfl) ?_
  refine rk_v rfl rfl rfl (fun wq hQ => ov_move rfl rfl) ?_
  refine rk_v rfl rfl rfl (fun wq hQ => ov_move rfl rfl) ?_
  refine rk_v rfl rfl rfl (fun wq hQ => ov_gtr rfl rfl rfl) ?_
  refine rk_v rfl rfl rfl (fun wq hQ => ov_move rfl rfl) ?_
  first | refine rk_split_dec 21 rfl (fun q1 => ?_) (fun q1 => ?_) | refine rk_split 21 rfl (fun q1 => ?_) (fun q1 => ?_)
  ·refine rk_gv rfl rfl rfl rfl rfl (fun wq hQ => ov_move rfl rfl) ?_
   refine rk_gv rfl rfl rfl rfl rfl (fun wq hQ => ov_move rfl rfl) ?_
   refine rk_gv rfl rfl rfl rfl rfl (fun wq hQ => ov_move rfl rfl) ?_
   refine rk_gv rfl rfl rfl rfl rfl (fun wq hQ => ov_index1 rfl Tryz.underlying30 (by kernel_rfl) rfl rfl ⟨by omega, by omega⟩ rfl) ?_
   refine rk_gv rfl rfl rfl rfl rfl (fun wq hQ => ov_load rfl Tryz.underlying3 rfl rfl (by exact ((hQ.own).cellI 0 rfl j (by omega) (by omega)).trans (congrArg some (hG j (by omega) (by omega))))) ?_
   refine rk_gv rfl rfl rfl rfl rfl (fun wq hQ => ov_move rfl rfl) ?_
   refine rk_gv rfl rfl rfl rfl rfl (fun wq hQ => ov_move rfl rfl) ?_
   refine rk_gv rfl rfl rfl rfl rfl (fun wq hQ => ov_sub rfl rfl rfl (by omega)) ?_
   refine rk_gv rfl rfl rfl rfl rfl (fun wq hQ => ov_index1 rfl Tryz.underlying30 (by kernel_rfl) rfl rfl ⟨by omega, by omega⟩ rfl) ?_
   refine rk_gv rfl rfl rfl rfl rfl (fun wq hQ => ov_load rfl Tryz.underlying3 rfl rfl (by exact ((hQ.own).cellI 0 rfl (j - 1) (by omega) (by omega)).trans (congrArg some (hG (j - 1) (by omega) (by omega))))) ?_
   refine rk_gcall hcl rfl rfl rfl rfl rfl rfl rfl rfl (fun wq hQ => (hcmp G (g j) (g (j - 1)) wq ((hI.same _).1 ⟨j, by omega, rfl⟩) ((hI.same _).1 ⟨j - 1, by omega, rfl⟩) (hQ.own)).mono fun _ _ h => ⟨h.1, ⟨(hQ.own).join h.2⟩⟩) ?_
   refine rk_gv rfl rfl rfl rfl rfl (fun wq hQ => ov_lss rfl rfl rfl) ?_
   refine rk_v rfl rfl rfl (fun wq hQ => ov_pick_t rfl rfl rfl) ?_
   refine rk_nil (fun w9 hQ => ?_)
   first | refine run_cond_dec rfl (fun c => ?_) (fun c => ?_) | refine run_cond rfl (fun c => ?_) (fun c => ?_)
   ·have hc2 : f (g j) < f (g (j - 1)) := by omega
    refine run_skip <| run_seq <| run_block <| run_held (fun w' => Own B w0 w' (H)) mixed ?_
    have hO11 := (hQ.own).drew
    generalize World.drew w9 = w10 at hO11 ⊢
    have hS12 : Own B w0 w10 (H) := by exact hO11.tail
    refine rh_v 0 rfl (by kernel_rfl) rfl rfl rfl hS12 (fun _ hS => ov_move rfl rfl) ?_
    refine rh_v 1 rfl (by kernel_rfl) rfl rfl rfl hS12 (fun _ hS => ov_move rfl rfl) ?_
    refine rh_v 2 rfl (by kernel_rfl) rfl rfl rfl hS12 (fun _ hS => ov_move rfl rfl) ?_
    refine rh_v 3 rfl (by kernel_rfl) rfl rfl rfl hS12 (fun _ hS => ov_move rfl rfl) ?_
    refine rh_v 4 rfl (by kernel_rfl) rfl rfl rfl hS12 (fun _ hS => ov_sub rfl rfl rfl (by omega)) ?_
    refine rh_v 5 rfl (by kernel_rfl) rfl rfl rfl hS12 (fun _ hS => ov_move rfl rfl) ?_
    refine rh_v 6 rfl (by kernel_rfl) rfl rfl rfl hS12 (fun _ hS => ov_move rfl rfl) ?_
    refine rh_v 7 rfl (by kernel_rfl) rfl rfl rfl hS12 (fun _ hS => ov_sub rfl rfl rfl (by omega)) ?_
    refine rh_v 8 rfl (by kernel_rfl) rfl rfl rfl hS12 (fun _ hS => ov_index1 rfl Tryz.underlying30 (by kernel_rfl) rfl rfl ⟨by omega, by omega⟩ rfl) ?_
    refine rh_v 10 rfl (by kernel_rfl) rfl rfl rfl hS12 (fun _ hS => ov_move rfl rfl) ?_
    refine rh_v 11 rfl (by kernel_rfl) rfl rfl rfl hS12 (fun _ hS => ov_move rfl rfl) ?_
    refine rh_v 12 rfl (by kernel_rfl) rfl rfl rfl hS12 (fun _ hS => ov_index1 rfl Tryz.underlying30 (by kernel_rfl) rfl rfl ⟨by omega, by omega⟩ rfl) ?_
    refine rh_any2 9 13 (by kernel_rfl) ?_ ?_
    ·refine rc_op rfl rfl (ow_v rfl rfl (ov_load rfl Tryz.underlying3 rfl rfl (by exact (hO11.cellI 0 rfl (j - 1) (by omega) (by omega)).trans (congrArg some (hG (j - 1) (by omega) (by omega)))))) ?_
     rintro _ _ ⟨rfl, hw13⟩
     replace hw13 := hw13.symm; subst hw13
     refine ⟨hS12, ?_⟩
     refine rh_any1 13 (by kernel_rfl) ?_
     refine rc_op rfl rfl (ow_v rfl rfl (ov_load rfl Tryz.underlying3 rfl rfl (by exact (hO11.cellI 0 rfl j (by omega) (by omega)).trans (congrArg some (hG j (by omega) (by omega)))))) ?_
     rintro _ _ ⟨rfl, hw14⟩
     replace hw14 := hw14.symm; subst hw14
     refine ⟨hS12, ?_⟩
     refine rh_v 14 rfl (by kernel_rfl) rfl rfl rfl hS12 (fun _ hS => ov_index1 rfl Tryz.underlying30 (by kernel_rfl) rfl rfl ⟨by omega, by omega⟩ rfl) ?_
     refine rh_any1 15 (by kernel_rfl) ?_
     refine rc_op rfl rfl (ow_store rfl rfl (by kernel_rfl) hO11 0 rfl rfl ⟨by omega, by omega⟩ rfl rfl) ?_
     rintro _ w15 ⟨rfl, hO16, hs17⟩
     have hS18 : Own B w0 w15 (H) := by exact hO16.tail
     refine ⟨hS18, ?_⟩
     refine rh_v 16 rfl (by kernel_rfl) rfl rfl rfl hS18 (fun _ hS => ov_index1 rfl Tryz.underlying30 (by kernel_rfl) rfl rfl ⟨by omega, by omega⟩ rfl) ?_
     refine rh_any1 17 (by kernel_rfl) ?_
     refine rc_op rfl rfl (ow_store rfl rfl (by kernel_rfl) hO16 0 rfl rfl ⟨by omega, by omega⟩ rfl rfl) ?_
     rintro _ w19 ⟨rfl, hO20, hs21⟩
     have hS22 : Own B w0 w19 (H) := by exact hO20.tail
     refine ⟨hS22, ?_⟩
     refine rh_done (by kernel_rfl) ?_
     refine run_inBlock <| run_region <| rl_v rfl rfl rfl (ov_move rfl rfl) <| rl_v rfl rfl rfl (ov_sub rfl rfl rfl (by omega)) ?_
     refine rl_v rfl rfl rfl (ov_assign rfl rfl) <| rl_nil ?_
     refine Run.use (ih4 (j - 1) (upd (upd g j (g (j - 1))) (j - 1) (g j)) (upd (upd G j (iv (g (j - 1)))) (j - 1) (iv (g j))) _ ?_ ?_) (And.intro (by exact slot_int rfl (by first | omega)) (And.intro rfl (And.intro rfl (And.intro rfl (And.intro rfl (And.intro rfl trivial))))))
     ·first | omega | (dsimp only; omega)
     ·exact ⟨hI.step (by omega) hc2, fun a a0 a1 => (by unfold upd; split; rfl; split; rfl; exact hG a a0 a1), hO20⟩
    ·refine rc_op rfl rfl (ow_v rfl rfl (ov_load rfl Tryz.underlying3 rfl rfl (by exact (hO11.cellI 0 rfl j (by omega) (by omega)).trans (congrArg some (hG j (by omega) (by omega)))))) ?_
     rintro _ _ ⟨rfl, hw23⟩
     replace hw23 := hw23.symm; subst hw23
     refine ⟨hS12, ?_⟩
     refine rh_any1 9 (by kernel_rfl) ?_
     refine rc_op rfl rfl (ow_v rfl rfl (ov_load rfl Tryz.underlying3 rfl rfl (by exact (hO11.cellI 0 rfl (j - 1) (by omega) (by omega)).trans (congrArg some (hG (j - 1) (by omega) (by omega)))))) ?_
     rintro _ _ ⟨rfl, hw24⟩
     replace hw24 := hw24.symm; subst hw24
     refine ⟨hS12, ?_⟩
     refine rh_v 14 rfl (by kernel_rfl) rfl rfl rfl hS12 (fun _ hS => ov_index1 rfl Tryz.underlying30 (by kernel_rfl) rfl rfl ⟨by omega, by omega⟩ rfl) ?_
     refine rh_any1 15 (by kernel_rfl) ?_
     refine rc_op rfl rfl (ow_store rfl rfl (by kernel_rfl) hO11 0 rfl rfl ⟨by omega, by omega⟩ rfl rfl) ?_
     rintro _ w25 ⟨rfl, hO26, hs27⟩
     have hS28 : Own B w0 w25 (H) := by exact hO26.tail
     refine ⟨hS28, ?_⟩
     refine rh_v 16 rfl (by kernel_rfl) rfl rfl rfl hS28 (fun _ hS => ov_index1 rfl Tryz.underlying30 (by kernel_rfl) rfl rfl ⟨by omega, by omega⟩ rfl) ?_
     refine rh_any1 17 (by kernel_rfl) ?_
     refine rc_op rfl rfl (ow_store rfl rfl (by kernel_rfl) hO26 0 rfl rfl ⟨by omega, by omega⟩ rfl rfl) ?_
     rintro _ w29 ⟨rfl, hO30, hs31⟩
     have hS32 : Own B w0 w29 (H) := by exact hO30.tail
     refine ⟨hS32, ?_⟩
     refine rh_done (by kernel_rfl) ?_
     refine run_inBlock <| run_region <| rl_v rfl rfl rfl (ov_move rfl rfl) <| rl_v rfl rfl rfl (ov_sub rfl rfl rfl (by omega)) ?_
     refine rl_v rfl rfl rfl (ov_assign rfl rfl) <| rl_nil ?_
     refine Run.use (ih4 (j - 1) (upd (upd g j (g (j - 1))) (j - 1) (g j)) (upd (upd G j (iv (g (j - 1)))) (j - 1) (iv (g j))) _ ?_ ?_) (And.intro (by exact slot_int rfl (by first | omega)) (And.intro rfl (And.intro rfl (And.intro rfl (And.intro rfl (And.intro rfl trivial))))))
     ·first | omega | (dsimp only; omega)
     ·exact ⟨hI.step (by omega) hc2, fun a a0 a1 => (by unfold upd; split; rfl; split; rfl; exact hG a a0 a1), hO30⟩
   ·refine run_exit rfl <| run_inBlock <| run_region <| rl_v rfl rfl rfl (ov_move rfl rfl) <| rl_v rfl rfl rfl (ov_add rfl rfl rfl (by omega)) ?_
    refine rl_v rfl rfl rfl (ov_assign rfl rfl) <| rl_nil ?_
    refine Run.use (ih2 (i + 1) (g) (G) _ ?_ ?_) (And.intro (by exact slot_int rfl (by first | omega)) (And.intro rfl (And.intro rfl (And.intro rfl (And.intro rfl trivial)))))
    ·first | omega | (dsimp only; omega)
    ·exact ⟨by omega, hI.done fun h => c (by omega), hG, (hQ.own)⟩
  ·refine rk_gskip rfl rfl rfl rfl rfl rfl <| rk_gskip rfl rfl rfl rfl rfl rfl <| rk_gskip rfl rfl rfl rfl rfl rfl <| rk_gskip rfl rfl rfl rfl rfl rfl <| rk_gskip rfl rfl rfl rfl rfl rfl <| rk_gskip rfl rfl rfl rfl rfl rfl <| rk_gskip rfl rfl rfl rfl rfl rfl <| rk_gskip rfl rfl rfl rfl rfl rfl <| rk_gskip rfl rfl rfl rfl rfl rfl <| rk_gskip rfl rfl rfl rfl rfl rfl <| rk_gskip rfl rfl rfl rfl rfl rfl <| rk_gskip rfl rfl rfl rfl rfl rfl <| rk_v rfl rfl rfl (fun wq hQ => ov_pick_f rfl rfl rfl) ?_
   refine rk_nil (fun w33 hQ => ?_)
   refine run_cond_f rfl <| run_exit rfl <| run_inBlock <| run_region <| rl_v rfl rfl rfl (ov_move rfl rfl) <| rl_v rfl rfl rfl (ov_add rfl rfl rfl (by omega)) ?_
   refine rl_v rfl rfl rfl (ov_assign rfl rfl) <| rl_nil ?_
   refine Run.use (ih2 (i + 1) (g) (G) _ ?_ ?_) (And.intro (by exact slot_int rfl (by first | omega)) (And.intro rfl (And.intro rfl (And.intro rfl (And.intro rfl trivial)))))
   ·first | omega | (dsimp only; omega)
   ·exact ⟨by omega, hI.done fun h => by omega, hG, (hQ.own)⟩
 ·obtain rfl : i = n := by omega
  refine run_exit rfl <| run_end Tryz.func54 (res0 Tryz.results54) ?_
  exact ⟨rfl, G, g, hG, hs, hO⟩
theorem stable7_any (gf : Nat) (hcl : Callable Tryz.prog gf) (caps : Array Value) (f Y : Int → Int) (b cap n B : Nat) (G : Int → Value) (H : List (Option Blk)) (w0 w : World) (hO : Own B w0 w (some (vch b 3 cap G) :: H)) (hcmp : ∀ G, CmpS gf caps f Y n B w0 (some (vch b 3 cap G) :: H))
  (hn : 1 ≤ n ∧ n ≤ 20) (hc : n ≤ cap) (hG : ∀ i : Int, 0 ≤ i → i < n → G i = iv (Y i)) (hY : ∀ a b : Int, 0 ≤ a → a < b → b < n → Y a < Y b) :
  Calls Tryz.prog 32 #[.slice (some ⟨b, 0, none⟩) n cap, iv n, .func (.func gf) #[] caps] w fun e w' => e = .returned (.tuple #[]) ∧ ∃ G' g', (∀ i : Int, 0 ≤ i → i < n → G' i = iv (g' i)) ∧ SrtS f Y n g' n ∧ Own B w0 w' (some (vch b 3 cap G') :: H) := by
 refine calls_of_run (F := [(0, _), (1, _), (2, _)]) Tryz.func32 rfl Tryz.ntmps32 rfl rfl <| run_seq <| run_region <| rl_v rfl rfl rfl (ov_assign rfl rfl) <| rl_nil <| run_seq <| run_region <| rl_v rfl rfl rfl (ov_move rfl rfl) <| rl_v rfl rfl rfl (ov_assign rfl rfl) <| rl_v rfl rfl rfl (ov_assign rfl rfl) <| rl_nil <| run_seq <| run_block <| run_once <| run_seq <| run_seq <| run_region <| rl_v rfl rfl rfl (ov_move rfl rfl) <| rl_v rfl rfl rfl (ov_move rfl rfl) <| rl_v rfl rfl rfl (ov_leq rfl rfl rfl) <| rl_nil ?_
 first | refine run_cond_dec rfl (fun q1 => ?_) (fun q1 => ?_) | refine run_cond rfl (fun q1 => ?_) (fun q1 => ?_)
 ·have hn20 : n = 20 := by omega
  subst hn20
  refine run_skip <| run_block <| run_seq <| run_region <| rl_v rfl rfl rfl (ov_move rfl rfl) <| rl_v rfl rfl rfl (ov_move rfl rfl) <| rl_v rfl rfl rfl (ov_move rfl rfl) <| rl_v rfl rfl rfl (ov_move rfl rfl) ?_
  refine rl_call callable_54 rfl rfl rfl rfl rfl rfl (insertion7_any gf hcl caps f Y b cap 20 B G H w0 w hO hcmp hn hc Y hG (fun _ _ _ => rfl) hY) (fun e1 w2 hp3 => ?_)
  obtain ⟨rfl, G', g', hG', hs, hO'⟩ := hp3
  refine ⟨_, rfl, ?_⟩
  refine rl_nil <| run_seq <| run_region <| rl_v rfl rfl rfl (ov_move rfl rfl) <| rl_v rfl rfl rfl (ov_assign rfl rfl) <| rl_nil <| run_region <| rl_v rfl rfl rfl (ov_move rfl rfl) <| rl_v rfl rfl rfl (ov_move rfl rfl) <| rl_v rfl rfl rfl (ov_add rfl rfl rfl (by omega)) ?_
  refine rl_v rfl rfl rfl (ov_assign rfl rfl) <| rl_nil <| run_inBlock <| run_again <| run_seq <| run_seq <| run_region <| rl_v rfl rfl rfl (ov_move rfl rfl) <| rl_v rfl rfl rfl (ov_move rfl rfl) <| rl_v rfl rfl rfl (ov_leq rfl rfl rfl) <| rl_nil ?_
  first | refine run_cond_dec rfl (fun q2 => ?_) (fun q2 => ?_) | refine run_cond rfl (fun q2 => ?_) (fun q2 => ?_)
  ·exfalso; omega
  ·refine run_exit rfl <| run_seq <| run_region <| rl_v rfl rfl rfl (ov_move rfl rfl) <| rl_v rfl rfl rfl (ov_move rfl rfl) <| rl_v rfl rfl rfl (ov_move rfl rfl) <| rl_v rfl rfl rfl (ov_move rfl rfl) ?_
   refine rl_call callable_54 rfl rfl rfl rfl rfl rfl (insNone7_any (.func (.func gf) #[] caps) (some ⟨b, 0, none⟩) cap 20 20 _ (by decide) (by decide)) (fun e4 w5 hp6 => ?_)
   obtain ⟨rfl, hO8⟩ := hp6
   refine ⟨_, rfl, ?_⟩
   have hO7 := hO'.join hO8
   refine rl_nil <| run_block <| run_once <| run_seq <| run_seq <| run_region <| rl_v rfl rfl rfl (ov_move rfl rfl) <| rl_v rfl rfl rfl (ov_move rfl rfl) <| rl_v rfl rfl rfl (ov_lss rfl rfl rfl) <| rl_nil ?_
   first | refine run_cond_dec rfl (fun q3 => ?_) (fun q3 => ?_) | refine run_cond rfl (fun q3 => ?_) (fun q3 => ?_)
   ·exfalso; omega
   ·refine run_exit rfl <| run_end Tryz.func32 (res0 Tryz.results32) ?_
    exact ⟨rfl, G', g', hG', hs, hO7⟩
 ·refine run_exit rfl <| run_seq <| run_region <| rl_v rfl rfl rfl (ov_move rfl rfl) <| rl_v rfl rfl rfl (ov_move rfl rfl) <| rl_v rfl rfl rfl (ov_move rfl rfl) <| rl_v rfl rfl rfl (ov_move rfl rfl) ?_
  refine rl_call callable_54 rfl rfl rfl rfl rfl rfl (insertion7_any gf hcl caps f Y b cap n B G H w0 w hO hcmp hn hc Y hG (fun _ _ _ => rfl) hY) (fun e8 w9 hp10 => ?_)
  obtain ⟨rfl, G', g', hG', hs, hO'⟩ := hp10
  refine ⟨_, rfl, ?_⟩
  refine rl_nil <| run_block <| run_once <| run_seq <| run_seq <| run_region <| rl_v rfl rfl rfl (ov_move rfl rfl) <| rl_v rfl rfl rfl (ov_move rfl rfl) <| rl_v rfl rfl rfl (ov_lss rfl rfl rfl) <| rl_nil ?_
  first | refine run_cond_dec rfl (fun q2 => ?_) (fun q2 => ?_) | refine run_cond rfl (fun q2 => ?_) (fun q2 => ?_)
  ·exfalso; omega
  ·refine run_exit rfl <| run_end Tryz.func32 (res0 Tryz.results32) ?_
   exact ⟨rfl, G', g', hG', hs, hO'⟩
theorem sortStable7_any (gf : Nat) (hcl : Callable Tryz.prog gf) (caps : Array Value) (f Y : Int → Int) (b cap n B : Nat) (G : Int → Value) (H : List (Option Blk)) (w0 w : World) (hO : Own B w0 w (some (vch b 3 cap G) :: H)) (hcmp : ∀ G, CmpS gf caps f Y n B w0 (some (vch b 3 cap G) :: H))
  (hn : 1 ≤ n ∧ n ≤ 20) (hc : n ≤ cap) (hG : ∀ i : Int, 0 ≤ i → i < n → G i = iv (Y i)) (hY : ∀ a b : Int, 0 ≤ a → a < b → b < n → Y a < Y b) :
  Calls Tryz.prog 14 #[.slice (some ⟨b, 0, none⟩) n cap, .func (.func gf) #[] caps] w fun e w' => e = .returned (.tuple #[]) ∧ ∃ G' g', (∀ i : Int, 0 ≤ i → i < n → G' i = iv (g' i)) ∧ SrtS f Y n g' n ∧ Own B w0 w' (some (vch b 3 cap G') :: H) := by
 refine calls_of_run (F := [(0, _), (1, _)]) Tryz.func14 rfl Tryz.ntmps14 rfl rfl ?_
 have hO0 := Own.init w
 refine run_region <| rl_v rfl rfl rfl (ov_move rfl rfl) <| rl_v rfl rfl rfl (ov_move rfl rfl) <| rl_v rfl rfl rfl (ov_len rfl Tryz.underlying30 rfl) <| rl_v rfl rfl rfl (ov_move rfl rfl) ?_
 refine rl_call callable_32 rfl rfl rfl rfl rfl rfl (stable7_any gf hcl caps f Y b cap n B G H w0 w hO hcmp hn hc hG hY) (fun e1 w2 hp3 => ?_)
 obtain ⟨rfl, G', g', hG', hs, hO'⟩ := hp3
 refine ⟨_, rfl, ?_⟩
 refine rl_nil <| run_end Tryz.func14 (res0 Tryz.results14) ?_
 exact ⟨rfl, G', g', hG', hs, hO'⟩
theorem sortNone7_any (gv : Value) (va : Option Addr) (cap : Nat) (w : World) :
  Calls Tryz.prog 14 #[.slice va 0 cap, gv] w fun e w' => e = .returned (.tuple #[]) ∧ Own w.heap.size w w' [] := by
 have hst : ∀ w1 : World, Calls Tryz.prog 32 #[.slice va 0 cap, iv 0, gv] w1 fun e w' => e = .returned (.tuple #[]) ∧ Own w1.heap.size w1 w' [] := fun w => by
  refine calls_of_run (F := [(0, _), (1, _), (2, _)]) Tryz.func32 rfl Tryz.ntmps32 rfl rfl ?_
  have hO0 := Own.init w
  refine run_seq <| run_region <| rl_v rfl rfl rfl (ov_assign rfl rfl) <| rl_nil <| run_seq <| run_region <| rl_v rfl rfl rfl (ov_move rfl rfl) <| rl_v rfl rfl rfl (ov_assign rfl rfl) <| rl_v rfl rfl rfl (ov_assign rfl rfl) <| rl_nil <| run_seq <| run_block <| run_once <| run_seq <| run_seq <| run_region <| rl_v rfl rfl rfl (ov_move rfl rfl) <| rl_v rfl rfl rfl (ov_move rfl rfl) <| rl_v rfl rfl rfl (ov_leq rfl rfl rfl) <| rl_nil ?_
  first | refine run_cond_dec rfl (fun q1 => ?_) (fun q1 => ?_) | refine run_cond rfl (fun q1 => ?_) (fun q1 => ?_)
  ·exfalso; omega
  ·refine run_exit rfl <| run_seq <| run_region <| rl_v rfl rfl rfl (ov_move rfl rfl) <| rl_v rfl rfl rfl (ov_move rfl rfl) <| rl_v rfl rfl rfl (ov_move rfl rfl) <| rl_v rfl rfl rfl (ov_move rfl rfl) ?_
   refine rl_call callable_54 rfl rfl rfl rfl rfl rfl (insNone7_any gv va cap 0 0 _ (by decide) (by decide)) (fun e1 w2 hp3 => ?_)
   obtain ⟨rfl, hO8⟩ := hp3
   refine ⟨_, rfl, ?_⟩
   have hO4 := hO0.join hO8
   refine rl_nil <| run_block <| run_once <| run_seq <| run_seq <| run_region <| rl_v rfl rfl rfl (ov_move rfl rfl) <| rl_v rfl rfl rfl (ov_move rfl rfl) <| rl_v rfl rfl rfl (ov_lss rfl rfl rfl) <| rl_nil ?_
   first | refine run_cond_dec rfl (fun q3 => ?_) (fun q3 => ?_) | refine run_cond rfl (fun q3 => ?_) (fun q3 => ?_)
   ·exfalso; omega
   ·refine run_exit rfl <| run_end Tryz.func32 (res0 Tryz.results32) ?_
    exact ⟨rfl, hO4⟩
 refine calls_of_run (F := [(0, _), (1, _)]) Tryz.func14 rfl Tryz.ntmps14 rfl rfl ?_
 have hO0 := Own.init w
 refine run_region <| rl_v rfl rfl rfl (ov_move rfl rfl) <| rl_v rfl rfl rfl (ov_move rfl rfl) <| rl_v rfl rfl rfl (ov_len rfl Tryz.underlying30 rfl) <| rl_v rfl rfl rfl (ov_move rfl rfl) ?_
 refine rl_call callable_32 rfl rfl rfl rfl rfl rfl (hst _) (fun e1 w2 hp3 => ?_)
 obtain ⟨rfl, hO8⟩ := hp3
 refine ⟨_, rfl, ?_⟩
 have hO4 := hO0.join hO8
 refine rl_nil <| run_end Tryz.func14 (res0 Tryz.results14) ?_
 exact ⟨rfl, hO4⟩
end Go.Proofs.YtbcjfjldmfljgaaGreat
