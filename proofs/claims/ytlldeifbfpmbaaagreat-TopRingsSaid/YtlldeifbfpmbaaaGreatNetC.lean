import Derived.Test.YtlldeifbfpmbaaaGreatNetA
import Derived.Test.YtlldeifbfpmbaaaGreatFbC
namespace Go.Proofs.YtlldeifbfpmbaaaGreat
open Go.RowKit Go.Proofs
structure Valid (n : Nat) (D : Int → Int → Int) : Prop where
 pos : 1 ≤ n
 le : n ≤ 32
 lo : ∀ r c, 0 ≤ D r c
 hi : ∀ r c, D r c ≤ 1000000
 dia : ∀ r, D r r = 0
theorem Valid.chk {n : Nat} {D : Int → Int → Int} (h : Valid n D) : chk n (fun _ => n) D = 0 :=
 chk_0 (by have := h.pos; omega) (by have := h.le; omega) (fun _ _ _ => rfl) (fun r c _ _ _ _ => by
  have := h.lo r c; have := h.hi r c
  rintro (h1 | h1 | ⟨h1, h2⟩)
  ·omega
  ·omega
  ·subst h1; exact h2 (h.dia r))
def term (D : Int → Int → Int) (rk : Int → Int) (r c : Int) : Int := D r c * max 0 (1 + rk r - rk c)
def bnd (n : Nat) (D : Int → Int → Int) (rk : Int → Int) : Int := sm (fun r => sm (term D rk r) n) n
end Go.Proofs.YtlldeifbfpmbaaaGreat
set_option maxRecDepth 100000
namespace Go.Proofs.YtlldeifbfpmbaaaGreat
open Go.RowKit Go.Proofs
def arcL (fr to lf gn : Int → Int) : Int → List Value := fun e => [.int .i64 (fr e), .int .i64 (to e), .int .i64 (lf e), .int .i64 (gn e)]
def afr (n : Int) (e : Int) : Int := if e % 2 = 0 then e / 2 / n else e / 2 % n
def ato (n : Int) (e : Int) : Int := if e % 2 = 0 then e / 2 % n else e / 2 / n
def alf (n : Int) (D : Int → Int → Int) (e : Int) : Int := if e % 2 = 0 then D (e / 2 / n) (e / 2 % n) else 0
def agn (e : Int) : Int := if e % 2 = 0 then 1 else -1
theorem pair_div {n i j : Int} (hj : 0 ≤ j) (hjn : j < n) : (i * n + j) / n = i ∧ (i * n + j) % n = j := by
 have hn : n ≠ 0 := by omega
 constructor
 ·rw [Int.add_comm, Int.add_mul_ediv_right _ _ hn, Int.ediv_eq_zero_of_lt hj hjn]; omega
 ·rw [Int.add_comm, Int.add_mul_emod_self_right, Int.emod_eq_of_lt hj hjn]
theorem even_half (p : Int) : (2 * p) % 2 = 0 ∧ (2 * p) / 2 = p ∧ (2 * p + 1) % 2 = 1 ∧ (2 * p + 1) / 2 = p := by omega
theorem arc_even (n : Int) (D : Int → Int → Int) {i j : Int} (hj : 0 ≤ j) (hjn : j < n) : arcL (afr n) (ato n) (alf n D) agn (2 * (i * n + j)) = [.int .i64 i, .int .i64 j, .int .i64 (D i j), .int .i64 1] := by
 obtain ⟨h1, h2⟩ := pair_div (i := i) hj hjn
 obtain ⟨h3, h4, _⟩ := even_half (i * n + j)
 simp only [arcL, afr, ato, alf, agn, h3, h4, h1, h2, if_true]
theorem arc_odd (n : Int) (D : Int → Int → Int) {i j : Int} (hj : 0 ≤ j) (hjn : j < n) : arcL (afr n) (ato n) (alf n D) agn (2 * (i * n + j) + 1) = [.int .i64 j, .int .i64 i, .int .i64 0, .int .i64 (-1)] := by
 obtain ⟨h1, h2⟩ := pair_div (i := i) hj hjn
 obtain ⟨_, _, h3, h4⟩ := even_half (i * n + j)
 have h5 : ¬ ((1 : Int) = 0) := by omega
 simp only [arcL, afr, ato, alf, agn, h3, h4, h1, h2, h5, if_false]
theorem arc_step {n m : Nat} {D : Int → Int → Int} {k j : Int} (hm : (m : Int) = 2 * (k * n + j)) (hj : 0 ≤ j) (hjn : j < n) (i : Int) (_ : 0 ≤ i) (_ : i < ((m + 2 : Nat) : Int)) :
  upd (upd (arcL (afr n) (ato n) (alf n D) agn) m [.int .i64 k, .int .i64 j, .int .i64 (D k j), .int .i64 1]) ((m : Int) + 1) [.int .i64 j, .int .i64 k, .int .i64 0, .int .i64 (-1)] i = arcL (afr n) (ato n) (alf n D) agn i := by
 unfold upd
 split
 ·rename_i e; rw [e, show (m : Int) + 1 = 2 * (k * n + j) + 1 by omega, arc_odd n D hj hjn]
 ·split
  ·rename_i e; rw [e, hm, arc_even n D hj hjn]
  ·rfl
theorem newCircle_any (ao : Option Addr) (n c : Nat) (D : Int → Int → Int) (w : World) (hn : n ≤ 32)
  (h : ITab w.heap.size w ao n (fun _ => n) (fun r c => .int .i64 (D r c))) :
  Calls Tryz.prog 61 #[.slice ao n c] w fun e w' =>
   ∃ b v c', e = .returned (.pointer (some ⟨b, 0, none⟩)) ∧ Own w.heap.size w w' [some (lch b 161 [.slice ao n c, v]), c'] ∧ SRow v 163 4 (2 * (n * n)) (arcL (afr n) (ato n) (alf n D) agn) c' := by
 obtain ⟨A, C, RB, RO, gb, go, hga, hrow, hra, hel, _⟩ := h.open
 have hle : (n : Int) ≤ 32 := by omega
 refine calls_of_run (F := [(0, _)]) Tryz.func61 rfl Tryz.ntmps61 rfl rfl ?_
 have hO0 := Own.init w
 refine run_seq <| run_region <| rl_v rfl rfl rfl (ov_assign rfl rfl) <| rl_nil <| run_seq <| run_region <| rl_v rfl rfl rfl (ov_move rfl rfl) <| rl_v rfl rfl rfl (ov_buildL rfl lay_161 rfl (us := [_, _]) rfl) <| rl_ow rfl (ow_box _ rfl rfl rfl rfl rfl hO0) ?_
 rintro _ w1 ⟨b, rfl, hO2, hs3⟩
 refine rl_v rfl rfl rfl (ov_assign rfl rfl) <| rl_nil <| run_seq <| run_seq <| run_region <| rl_v rfl rfl rfl (ov_move rfl rfl) <| rl_v rfl rfl rfl (ov_len rfl Tryz.underlying64 rfl) <| rl_v rfl rfl rfl (ov_move rfl rfl) <| rl_nil <| run_block <| Run.keep [3, 11, 12, 13] (F' := [(3, _), (11, _), (12, _), (13, _)]) rfl <| run_loop4 (fun (k : Int) (m : Nat) (v : Value) (c' : Option Blk) => [(13, .int .i64 k)]) [3, 11, 12] (fun (k : Int) (m : Nat) (v : Value) (c' : Option Blk) (w4 : World) => 0 ≤ k ∧ k ≤ n ∧ (m : Int) = 2 * (k * n) ∧ SRow v 163 4 m (arcL (afr n) (ato n) (alf n D) agn) c' ∧ Own w.heap.size w w4 [some (lch b 161 [.slice ao n c, v]), c']) (fun (k : Int) (m : Nat) (v : Value) (c' : Option Blk) => ((n : Int) - k).toNat) (0) (0) (.slice none 0 0) (none) ?_ (And.intro (by exact slot_int rfl (by first | omega)) (And.intro rfl (And.intro rfl (And.intro rfl trivial)))) ?_
 ·exact ⟨by omega, by omega, by omega, SRow.nil _ _ _, hO2.nil_cons.swap⟩
 intro k m v c' w4 hIw4 ih5
 obtain ⟨hk0, hk1, hm, hR, hO⟩ := hIw4
 show Run _ _ _ _ [(13, _), (3, _), (11, _), (12, _)] _ _
 have hkn := mulb hk0 (show k ≤ 32 by omega) (show (0 : Int) ≤ n by omega) hle
 refine run_seq <| run_region <| rl_v rfl rfl rfl (ov_lss rfl rfl rfl) <| rl_nil <| run_seq ?_
 first | refine run_cond_dec rfl (fun h1 => ?_) (fun h1 => ?_) | refine run_cond rfl (fun h1 => ?_) (fun h1 => ?_)
 ·refine run_skip <| run_seq <| run_block <| run_seq <| run_region <| rl_v rfl rfl rfl (ov_move rfl rfl) <| rl_v rfl rfl rfl (ov_index1 rfl Tryz.underlying64 (by kernel_rfl) rfl rfl ⟨by omega, by omega⟩ (by exact hga (by omega))) ?_
  refine rl_v rfl rfl rfl (ov_load rfl Tryz.underlying65 rfl rfl (by exact hrow _ hO.below _ (by omega) (by omega))) ?_
  refine rl_v rfl rfl rfl (ov_assign rfl rfl) <| rl_v rfl rfl rfl (ov_assign rfl rfl) <| rl_nil <| run_seq <| run_region <| rl_v rfl rfl rfl (ov_move rfl rfl) <| rl_v rfl rfl rfl (ov_len rfl Tryz.underlying65 rfl) <| rl_v rfl rfl rfl (ov_move rfl rfl) <| rl_nil <| run_block <| Run.keep [3, 4, 11, 12, 13, 18, 19, 20] (F' := [(3, _), (4, _), (11, _), (12, _), (13, _), (18, _), (19, _), (20, _)]) rfl <| run_loop4 (fun (j : Int) (m : Nat) (v : Value) (c' : Option Blk) => [(20, .int .i64 j)]) [3, 4, 11, 12, 13, 18, 19] (fun (j : Int) (m : Nat) (v : Value) (c' : Option Blk) (w6 : World) => 0 ≤ j ∧ j ≤ n ∧ (m : Int) = 2 * (k * n + j) ∧ SRow v 163 4 m (arcL (afr n) (ato n) (alf n D) agn) c' ∧ Own w.heap.size w w6 [some (lch b 161 [.slice ao n c, v]), c']) (fun (j : Int) (m : Nat) (v : Value) (c' : Option Blk) => ((n : Int) - j).toNat) (0) (m) (v) (c') ?_ (And.intro (by exact slot_int rfl (by first | omega)) (And.intro rfl (And.intro rfl (And.intro rfl (And.intro rfl (And.intro rfl (And.intro rfl (And.intro rfl trivial)))))))) ?_
  ·exact ⟨by omega, by omega, by omega, hR, hO⟩
  intro j m v c' w6 hIw6 ih7
  obtain ⟨hj0, hj1, hm2, hR2, hO2⟩ := hIw6
  show Run _ _ _ _ [(20, _), (3, _), (4, _), (11, _), (12, _), (13, _), (18, _), (19, _)] _ _
  refine run_seq <| run_region <| rl_v rfl rfl rfl (ov_lss rfl rfl rfl) <| rl_nil <| run_seq ?_
  first | refine run_cond_dec rfl (fun h2 => ?_) (fun h2 => ?_) | refine run_cond rfl (fun h2 => ?_) (fun h2 => ?_)
  ·refine run_skip <| run_seq <| run_block <| run_seq <| run_region <| rl_v rfl rfl rfl (ov_move rfl rfl) <| rl_v rfl rfl rfl (ov_index1 rfl Tryz.underlying65 (by kernel_rfl) rfl rfl ⟨by omega, by omega⟩ (by exact hra _ (by omega) (by omega) (by omega))) ?_
   refine rl_v rfl rfl rfl (ov_load rfl Tryz.underlying2 rfl rfl (by exact hel _ hO2.below _ (by omega) (by omega) _ (by omega) (by omega))) ?_
   refine rl_v rfl rfl rfl (ov_assign rfl rfl) <| rl_v rfl rfl rfl (ov_assign rfl rfl) <| rl_nil <| run_region <| rl_v rfl rfl rfl (ov_move rfl rfl) <| rl_v rfl rfl rfl (ov_move rfl rfl) <| rl_v rfl rfl rfl (ov_nil rfl rfl) <| rl_v rfl rfl rfl (ov_fieldS rfl Tryz.underlying161 rfl (fo := 1) rfl (by kernel_rfl) rfl) ?_
   refine rl_v rfl rfl rfl (ov_load rfl Tryz.underlying159 rfl rfl (by exact hO2.cellL 0 rfl rfl)) ?_
   refine rl_v rfl rfl rfl (ov_move rfl rfl) <| rl_v rfl rfl rfl (ov_move rfl rfl) <| rl_v rfl rfl rfl (ov_move rfl rfl) <| rl_v rfl rfl rfl (ov_buildL rfl lay_163 rfl (us := [_, _, _, _]) rfl) <| rl_v rfl rfl rfl (ov_move rfl rfl) <| rl_v rfl rfl rfl (ov_move rfl rfl) <| rl_v rfl rfl rfl (ov_buildL rfl lay_163 rfl (us := [_, _, _, _]) rfl) <| rl_ow rfl (ow_build [_, _] rfl rfl rfl rfl rfl Tryz.underlying159 info_163 (by decide) hO2 rfl rfl) ?_
   rintro _ w8 ⟨b2, rfl, hO9, hs10⟩
   refine rl_ow rfl (ow_appR2 rfl rfl rfl Tryz.underlying159 info_163 rfl rfl hO9 1 hR2 rfl rfl rfl rfl rfl rfl rfl ⟨by omega, by omega⟩) ?_
   rintro _ w11 ⟨v3, c3, rfl, hO12, hR3, hs13⟩
   obtain ⟨ao3, cap3, rfl⟩ := hR3.val
   refine rl_v rfl rfl rfl (ov_nil rfl rfl) <| rl_v rfl rfl rfl (ov_fieldS rfl Tryz.underlying161 rfl (fo := 1) rfl (by kernel_rfl) rfl) ?_
   refine rl_ow rfl (ow_storeL rfl rfl (by kernel_rfl) hO12 0 rfl rfl rfl rfl rfl) ?_
   rintro _ w14 ⟨rfl, hO15, hs16⟩
   refine rl_nil <| run_inBlock <| run_region <| rl_v rfl rfl rfl (ov_add rfl rfl rfl (by omega)) ?_
   refine rl_v rfl rfl rfl (ov_move rfl rfl) <| rl_nil ?_
   refine Run.use (ih7 _ (m + 2) (.slice ao3 (m + 2) cap3) (c3) _ ?_ ?_) (And.intro (by rfl) (And.intro rfl (And.intro rfl (And.intro rfl (And.intro rfl (And.intro rfl (And.intro rfl (And.intro rfl trivial))))))))
   ·first | omega | (dsimp only; omega)
   ·exact ⟨by omega, by omega, by omega, hR3.congr (arc_step hm2 hj0 h2), hO15⟩
  ·refine run_exit rfl <| run_inBlock <| run_region <| rl_v rfl rfl rfl (ov_add rfl rfl rfl (by omega)) ?_
   refine rl_v rfl rfl rfl (ov_move rfl rfl) <| rl_nil ?_
   refine Run.use (ih5 _ (m) (v) (c') _ ?_ ?_) (And.intro (by rfl) (And.intro rfl (And.intro rfl (And.intro rfl trivial))))
   ·first | omega | (dsimp only; omega)
   ·exact ⟨by omega, by omega, by rw [hm2, Int.add_mul, show j = (n : Int) by omega]; omega, hR2, hO2⟩
 ·refine run_exit rfl <| run_seq <| run_region <| rl_v rfl rfl rfl (ov_move rfl rfl) <| rl_v rfl rfl rfl (ov_assign rfl rfl) <| rl_nil <| run_ret Tryz.func61 (res1 Tryz.results61 rfl) ?_
  exact ⟨b, v, c', rfl, hO, by have e : m = 2 * (n * n) := Int.ofNat_inj.1 (by rw [hm, show k = (n : Int) by omega]; simp); rw [← e]; exact hR⟩
end Go.Proofs.YtlldeifbfpmbaaaGreat
