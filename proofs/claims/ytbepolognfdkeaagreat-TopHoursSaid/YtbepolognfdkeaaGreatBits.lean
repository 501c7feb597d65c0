import Derived.Test.YtbepolognfdkeaaGreatNetB
import Derived.Test.YtbepolognfdkeaaGreatBits0
set_option maxRecDepth 100000
namespace Go.Proofs.YtbepolognfdkeaaGreat
open Go.RowKit Go.Proofs
def arcL (fr to lf gn : Int → Int) : Int → List Value := fun e => [.int .i64 (fr e), .int .i64 (to e), .int .i64 (lf e), .int .i64 (gn e)]
def afr (n : Int) (e : Int) : Int := if e % 2 = 0 then e / 2 / n else e / 2 % n
def ato (n : Int) (e : Int) : Int := if e % 2 = 0 then e / 2 % n else e / 2 / n
def alf (n : Int) (D : Int → Int → Int) (e : Int) : Int := if e % 2 = 0 then D (e / 2 / n) (e / 2 % n) else 0
def agn (e : Int) : Int := if e % 2 = 0 then 1 else -1
theorem pair_div {n i j : Int} (hj : 0 ≤ j) (hjn : j < n) : (i * n + j) / n = i ∧ (i * n + j) % n = j := by
 have hn : n ≠ 0 := by omega
 constructor
 ·rw [Int.add_comm, Int.add_mul_ediv_right _ _ hn, Int.ediv_eq_zero_of_lt hj hjn]; omega
 ·rw [Int.add_comm, Int.add_mul_emod_self_right, Int.emod_eq_of_lt hj hjn]
theorem even_half (p : Int) : (2 * p) % 2 = 0 ∧ (2 * p) / 2 = p ∧ (2 * p + 1) % 2 = 1 ∧ (2 * p + 1) / 2 = p := by omega
theorem arc_even (n : Int) (D : Int → Int → Int) {i j : Int} (hj : 0 ≤ j) (hjn : j < n) : arcL (afr n) (ato n) (alf n D) agn (2 * (i * n + j)) = [.int .i64 i, .int .i64 j, .int .i64 (D i j), .int .i64 1] := by
 obtain ⟨h1, h2⟩ := pair_div (i := i) hj hjn
 obtain ⟨h3, h4, _⟩ := even_half (i * n + j)
 simp only [arcL, afr, ato, alf, agn, h3, h4, h1, h2, if_true]
theorem arc_odd (n : Int) (D : Int → Int → Int) {i j : Int} (hj : 0 ≤ j) (hjn : j < n) : arcL (afr n) (ato n) (alf n D) agn (2 * (i * n + j) + 1) = [.int .i64 j, .int .i64 i, .int .i64 0, .int .i64 (-1)] := by
 obtain ⟨h1, h2⟩ := pair_div (i := i) hj hjn
 obtain ⟨_, _, h3, h4⟩ := even_half (i * n + j)
 have h5 : ¬ ((1 : Int) = 0) := by omega
 simp only [arcL, afr, ato, alf, agn, h3, h4, h1, h2, h5, if_false]
theorem arc_step {n m : Nat} {D : Int → Int → Int} {k j : Int} (hm : (m : Int) = 2 * (k * n + j)) (hj : 0 ≤ j) (hjn : j < n) (i : Int) (_ : 0 ≤ i) (_ : i < ((m + 2 : Nat) : Int)) :
  upd (upd (arcL (afr n) (ato n) (alf n D) agn) m [.int .i64 k, .int .i64 j, .int .i64 (D k j), .int .i64 1]) ((m : Int) + 1) [.int .i64 j, .int .i64 k, .int .i64 0, .int .i64 (-1)] i = arcL (afr n) (ato n) (alf n D) agn i := by
 unfold upd
 split
 ·rename_i e; rw [e, show (m : Int) + 1 = 2 * (k * n + j) + 1 by omega, arc_odd n D hj hjn]
 ·split
  ·rename_i e; rw [e, hm, arc_even n D hj hjn]
  ·rfl
theorem newCircle_any (ao : Option Addr) (n c : Nat) (D : Int → Int → Int) (w : World) (hn : n ≤ 32)
  (h : ITab w.heap.size w ao n (fun _ => n) (fun r c => .int .i64 (D r c))) :
  Calls Tryz.prog 73 #[.slice ao n c] w fun e w' =>
   ∃ b v c', e = .returned (.pointer (some ⟨b, 0, none⟩)) ∧ Own w.heap.size w w' [some (lch b 178 [.slice ao n c, v]), c'] ∧ SRow v 180 4 (2 * (n * n)) (arcL (afr n) (ato n) (alf n D) agn) c' := by
 obtain ⟨A, C, RB, RO, gb, go, hga, hrow, hra, hel, _⟩ := h.open
 have hle : (n : Int) ≤ 32 := by omega
 refine calls_of_run (F := [(0, _)]) Tryz.func73 rfl Tryz.ntmps73 rfl rfl ?_
 have hO0 := Own.init w
 refine run_seq <| run_region <| rl_v rfl rfl rfl (ov_assign rfl rfl) <| rl_nil <| run_seq <| run_region <| rl_v rfl rfl rfl (ov_move rfl rfl) <| rl_v rfl rfl rfl (ov_buildL rfl lay_178 rfl (us := [_, _]) rfl) <| rl_ow rfl (ow_box _ rfl rfl rfl rfl rfl hO0) ?_
 rintro _ w1 ⟨b, rfl, hO2, hs3⟩
 refine rl_v rfl rfl rfl (ov_assign rfl rfl) <| rl_nil <| run_seq <| run_seq <| run_region <| rl_v rfl rfl rfl (ov_move rfl rfl) <| rl_v rfl rfl rfl (ov_len rfl Tryz.underlying55 rfl) <| rl_v rfl rfl rfl (ov_move rfl rfl) <| rl_nil <| run_block <| Run.keep [3, 11, 12, 13] (F' := [(3, _), (11, _), (12, _), (13, _)]) rfl <| run_loop4 (fun (k : Int) (m : Nat) (v : Value) (c' : Option Blk) => [(13, .int .i64 k)]) [3, 11, 12] (fun (k : Int) (m : Nat) (v : Value) (c' : Option Blk) (w4 : World) => 0 ≤ k ∧ k ≤ n ∧ (m : Int) = 2 * (k * n) ∧ SRow v 180 4 m (arcL (afr n) (ato n) (alf n D) agn) c' ∧ Own w.heap.size w w4 [some (lch b 178 [.slice ao n c, v]), c']) (fun (k : Int) (m : Nat) (v : Value) (c' : Option Blk) => ((n : Int) - k).toNat) (0) (0) (.slice none 0 0) (none) ?_ (And.intro (by exact slot_int rfl (by first | omega)) (And.intro rfl (And.intro rfl (And.intro rfl trivial)))) ?_
 ·exact ⟨by omega, by omega, by omega, SRow.nil _ _ _, hO2.nil_cons.swap⟩
 intro k m v c' w4 hIw4 ih5
 obtain ⟨hk0, hk1, hm, hR, hO⟩ := hIw4
 show Run _ _ _ _ [(13, _), (3, _), (11, _), (12, _)] _ _
 have hkn := mulb hk0 (show k ≤ 32 by omega) (show (0 : Int) ≤ n by omega) hle
 refine run_seq <| run_region <| rl_v rfl rfl rfl (ov_lss rfl rfl rfl) <| rl_nil <| run_seq ?_
 first | refine run_cond_dec rfl (fun h1 => ?_) (fun h1 => ?_) | refine run_cond rfl (fun h1 => ?_) (fun h1 => ?_)
 ·refine run_skip <| run_seq <| run_block <| run_seq <| run_region <| rl_v rfl rfl rfl (ov_move rfl rfl) <| rl_v rfl rfl rfl (ov_index1 rfl Tryz.underlying55 (by kernel_rfl) rfl rfl ⟨by omega, by omega⟩ (by exact hga (by omega))) ?_
  refine rl_v rfl rfl rfl (ov_load rfl Tryz.underlying59 rfl rfl (by exact hrow _ hO.below _ (by omega) (by omega))) ?_
  refine rl_v rfl rfl rfl (ov_assign rfl rfl) <| rl_v rfl rfl rfl (ov_assign rfl rfl) <| rl_nil <| run_seq <| run_region <| rl_v rfl rfl rfl (ov_move rfl rfl) <| rl_v rfl rfl rfl (ov_len rfl Tryz.underlying59 rfl) <| rl_v rfl rfl rfl (ov_move rfl rfl) <| rl_nil <| run_block <| Run.keep [3, 4, 11, 12, 13, 18, 19, 20] (F' := [(3, _), (4, _), (11, _), (12, _), (13, _), (18, _), (19, _), (20, _)]) rfl <| run_loop4 (fun (j : Int) (m : Nat) (v : Value) (c' : Option Blk) => [(20, .int .i64 j)]) [3, 4, 11, 12, 13, 18, 19] (fun (j : Int) (m : Nat) (v : Value) (c' : Option Blk) (w6 : World) => 0 ≤ j ∧ j ≤ n ∧ (m : Int) = 2 * (k * n + j) ∧ SRow v 180 4 m (arcL (afr n) (ato n) (alf n D) agn) c' ∧ Own w.heap.size w w6 [some (lch b 178 [.slice ao n c, v]), c']) (fun (j : Int) (m : Nat) (v : Value) (c' : Option Blk) => ((n : Int) - j).toNat) (0) (m) (v) (c') ?_ (And.intro (by exact slot_int rfl (by first | omega)) (And.intro rfl (And.intro rfl (And.intro rfl (And.intro rfl (And.intro rfl (And.intro rfl (And.intro rfl trivial)))))))) ?_
  ·exact ⟨by omega, by omega, by omega, hR, hO⟩
  intro j m v c' w6 hIw6 ih7
  obtain ⟨hj0, hj1, hm2, hR2, hO2⟩ := hIw6
  show Run _ _ _ _ [(20, _), (3, _), (4, _), (11, _), (12, _), (13, _), (18, _), (19, _)] _ _
  refine run_seq <| run_region <| rl_v rfl rfl rfl (ov_lss rfl rfl rfl) <| rl_nil <| run_seq ?_
  first | refine run_cond_dec rfl (fun h2 => ?_) (fun h2 => ?_) | refine run_cond rfl (fun h2 => ?_) (fun h2 => ?_)
  ·refine run_skip <| run_seq <| run_block <| run_seq <| run_region <| rl_v rfl rfl rfl (ov_move rfl rfl) <| rl_v rfl rfl rfl (ov_index1 rfl Tryz.underlying59 (by kernel_rfl) rfl rfl ⟨by omega, by omega⟩ (by exact hra _ (by omega) (by omega) (by omega))) ?_
   refine rl_v rfl rfl rfl (ov_load rfl Tryz.underlying2 rfl rfl (by exact hel _ hO2.below _ (by omega) (by omega) _ (by omega) (by omega))) ?_
   refine rl_v rfl rfl rfl (ov_assign rfl rfl) <| rl_v rfl rfl rfl (ov_assign rfl rfl) <| rl_nil <| run_region <| rl_v rfl rfl rfl (ov_move rfl rfl) <| rl_v rfl rfl rfl (ov_move rfl rfl) <| rl_v rfl rfl rfl (ov_nil rfl rfl) <| rl_v rfl rfl rfl (ov_fieldS rfl Tryz.underlying178 rfl (fo := 1) rfl (by kernel_rfl) rfl) ?_
   refine rl_v rfl rfl rfl (ov_load rfl Tryz.underlying176 rfl rfl (by exact hO2.cellL 0 rfl rfl)) ?_
   refine rl_v rfl rfl rfl (ov_move rfl rfl) <| rl_v rfl rfl rfl (ov_move rfl rfl) <| rl_v rfl rfl rfl (ov_move rfl rfl) <| rl_v rfl rfl rfl (ov_buildL rfl lay_180 rfl (us := [_, _, _, _]) rfl) <| rl_v rfl rfl rfl (ov_move rfl rfl) <| rl_v rfl rfl rfl (ov_move rfl rfl) <| rl_v rfl rfl rfl (ov_buildL rfl lay_180 rfl (us := [_, _, _, _]) rfl) <| rl_ow rfl (ow_build [_, _] rfl rfl rfl rfl rfl Tryz.underlying176 info_180 (by decide) hO2 rfl rfl) ?_
   rintro _ w8 ⟨b2, rfl, hO9, hs10⟩
   refine rl_ow rfl (ow_appR2 rfl rfl rfl Tryz.underlying176 info_180 rfl rfl hO9 1 hR2 rfl rfl rfl rfl rfl rfl rfl ⟨by omega, by omega⟩) ?_
   rintro _ w11 ⟨v3, c3, rfl, hO12, hR3, hs13⟩
   obtain ⟨ao3, cap3, rfl⟩ := hR3.val
   refine rl_v rfl rfl rfl (ov_nil rfl rfl) <| rl_v rfl rfl rfl (ov_fieldS rfl Tryz.underlying178 rfl (fo := 1) rfl (by kernel_rfl) rfl) ?_
   refine rl_ow rfl (ow_storeL rfl rfl (by kernel_rfl) hO12 0 rfl rfl rfl rfl rfl) ?_
   rintro _ w14 ⟨rfl, hO15, hs16⟩
   refine rl_nil <| run_inBlock <| run_region <| rl_v rfl rfl rfl (ov_add rfl rfl rfl (by omega)) ?_
   refine rl_v rfl rfl rfl (ov_move rfl rfl) <| rl_nil ?_
   refine Run.use (ih7 _ (m + 2) (.slice ao3 (m + 2) cap3) (c3) _ ?_ ?_) (And.intro (by rfl) (And.intro rfl (And.intro rfl (And.intro rfl (And.intro rfl (And.intro rfl (And.intro rfl (And.intro rfl trivial))))))))
   ·first | omega | (dsimp only; omega)
   ·exact ⟨by omega, by omega, by omega, hR3.congr (arc_step hm2 hj0 h2), hO15⟩
  ·refine run_exit rfl <| run_inBlock <| run_region <| rl_v rfl rfl rfl (ov_add rfl rfl rfl (by omega)) ?_
   refine rl_v rfl rfl rfl (ov_move rfl rfl) <| rl_nil ?_
   refine Run.use (ih5 _ (m) (v) (c') _ ?_ ?_) (And.intro (by rfl) (And.intro rfl (And.intro rfl (And.intro rfl trivial))))
   ·first | omega | (dsimp only; omega)
   ·exact ⟨by omega, by omega, by rw [hm2, Int.add_mul, show j = (n : Int) by omega]; omega, hR2, hO2⟩
 ·refine run_exit rfl <| run_seq <| run_region <| rl_v rfl rfl rfl (ov_move rfl rfl) <| rl_v rfl rfl rfl (ov_assign rfl rfl) <| rl_nil <| run_ret Tryz.func73 (res1 Tryz.results73 rfl) ?_
  exact ⟨b, v, c', rfl, hO, by have e : m = 2 * (n * n) := Int.ofNat_inj.1 (by rw [hm, show k = (n : Int) by omega]; simp); rw [← e]; exact hR⟩
end Go.Proofs.YtbepolognfdkeaaGreat
set_option maxRecDepth 100000
namespace Go.Proofs.YtbepolognfdkeaaGreat
open Go.RowKit Go.Proofs
theorem mul64K_any (x y : Int) (w : World) (hx : 0 ≤ x ∧ x < 4294967296) (hy : 0 ≤ y ∧ y < 4294967296) :
  Calls Tryz.prog 136 #[.int .u64 x, .int .u64 y] w fun e w' => e = .returned (.tuple #[.int .u64 0, .int .u64 (x * y)]) ∧ Below w.heap.size w w' := by
 have hxy := mulb hx.1 (show x ≤ 4294967295 by omega) hy.1 (show y ≤ 4294967295 by omega)
 have e0 : x % 4294967296 = x := Int.emod_eq_of_lt hx.1 hx.2
 have e1 : y % 4294967296 = y := Int.emod_eq_of_lt hy.1 hy.2
 have e2 : x / 4294967296 = 0 := Int.ediv_eq_zero_of_lt hx.1 hx.2
 have e3 : y / 4294967296 = 0 := Int.ediv_eq_zero_of_lt hy.1 hy.2
 have key : ∀ a b : Int, a = 0 → Ending.returned (.tuple #[.int .u64 a, .int .u64 b]) = .returned (.tuple #[.int .u64 0, .int .u64 b]) := by rintro _ _ rfl; rfl
 refine calls_of_run (F := [(0, _), (1, _)]) Tryz.func136 rfl Tryz.ntmps136 rfl rfl ?_
 have hO0 := Own.init w
 refine run_seq <| run_region <| rl_v rfl rfl rfl (ov_assign rfl rfl) <| rl_v rfl rfl rfl (ov_assign rfl rfl) <| rl_nil <| run_seq <| run_region <| rl_v rfl rfl rfl (ov_move rfl rfl) <| rl_v rfl rfl rfl (ov_and32 rfl rfl rfl ⟨by omega, by omega⟩) ?_
 refine rl_v rfl rfl rfl (ov_assign rfl rfl) <| rl_nil <| run_seq <| run_region <| rl_v rfl rfl rfl (ov_move rfl rfl) <| rl_v rfl rfl rfl (ov_shr32 rfl rfl rfl) <| rl_v rfl rfl rfl (ov_assign rfl rfl) <| rl_nil <| run_seq <| run_region <| rl_v rfl rfl rfl (ov_move rfl rfl) <| rl_v rfl rfl rfl (ov_and32 rfl rfl rfl ⟨by omega, by omega⟩) ?_
 refine rl_v rfl rfl rfl (ov_assign rfl rfl) <| rl_nil <| run_seq <| run_region <| rl_v rfl rfl rfl (ov_move rfl rfl) <| rl_v rfl rfl rfl (ov_shr32 rfl rfl rfl) <| rl_v rfl rfl rfl (ov_assign rfl rfl) <| rl_nil <| run_seq <| run_region <| rl_v rfl rfl rfl (ov_move rfl rfl) <| rl_v rfl rfl rfl (ov_move rfl rfl) <| rl_v rfl rfl rfl (ov_mulU rfl rfl rfl (by rw [e0, e1]; omega)) ?_
 refine rl_v rfl rfl rfl (ov_assign rfl rfl) <| rl_nil <| run_seq <| run_region <| rl_v rfl rfl rfl (ov_move rfl rfl) <| rl_v rfl rfl rfl (ov_move rfl rfl) <| rl_v rfl rfl rfl (ov_mulU rfl rfl rfl (by rw [e2, e1]; omega)) ?_
 refine rl_v rfl rfl rfl (ov_move rfl rfl) <| rl_v rfl rfl rfl (ov_shr32 rfl rfl rfl) <| rl_v rfl rfl rfl (ov_addU rfl rfl rfl (by rw [e2, e1, e0]; omega)) ?_
 refine rl_v rfl rfl rfl (ov_assign rfl rfl) <| rl_nil <| run_seq <| run_region <| rl_v rfl rfl rfl (ov_move rfl rfl) <| rl_v rfl rfl rfl (ov_and32 rfl rfl rfl (by rw [e2, e1, e0]; omega)) ?_
 refine rl_v rfl rfl rfl (ov_assign rfl rfl) <| rl_nil <| run_seq <| run_region <| rl_v rfl rfl rfl (ov_move rfl rfl) <| rl_v rfl rfl rfl (ov_shr32 rfl rfl rfl) <| rl_v rfl rfl rfl (ov_assign rfl rfl) <| rl_nil <| run_seq <| run_region <| rl_v rfl rfl rfl (ov_move rfl rfl) <| rl_v rfl rfl rfl (ov_move rfl rfl) <| rl_v rfl rfl rfl (ov_move rfl rfl) <| rl_v rfl rfl rfl (ov_mulU rfl rfl rfl (by rw [e0, e3]; omega)) ?_
 refine rl_v rfl rfl rfl (ov_addU rfl rfl rfl (by rw [e0, e1, e2, e3]; omega)) ?_
 refine rl_v rfl rfl rfl (ov_assign rfl rfl) <| rl_nil <| run_seq <| run_region <| rl_v rfl rfl rfl (ov_move rfl rfl) <| rl_v rfl rfl rfl (ov_move rfl rfl) <| rl_v rfl rfl rfl (ov_mulU rfl rfl rfl (by rw [e2, e3]; omega)) ?_
 refine rl_v rfl rfl rfl (ov_move rfl rfl) <| rl_v rfl rfl rfl (ov_addU rfl rfl rfl (by rw [e0, e1, e2, e3]; omega)) ?_
 refine rl_v rfl rfl rfl (ov_move rfl rfl) <| rl_v rfl rfl rfl (ov_shr32 rfl rfl rfl) <| rl_v rfl rfl rfl (ov_addU rfl rfl rfl (by rw [e0, e1, e2, e3]; omega)) ?_
 refine rl_v rfl rfl rfl (ov_assign rfl rfl) <| rl_nil <| run_seq <| run_region <| rl_v rfl rfl rfl (ov_move rfl rfl) <| rl_v rfl rfl rfl (ov_move rfl rfl) <| rl_v rfl rfl rfl (ov_mulU rfl rfl rfl (by omega)) ?_
 refine rl_v rfl rfl rfl (ov_assign rfl rfl) <| rl_nil <| run_ret Tryz.func136 (res2 Tryz.results136 rfl rfl) ?_
 exact ⟨key _ _ (by rw [e0, e1, e2, e3]; omega), hO0.below⟩
theorem mul_any (x y : Int) (w : World) (hx : 0 ≤ x ∧ x < 4294967296) (hy : 0 ≤ y ∧ y < 4294967296) :
  Calls Tryz.prog 98 #[.int .u64 x, .int .u64 y] w fun e w' => e = .returned (.tuple #[.int .u64 0, .int .u64 (x * y)]) ∧ Below w.heap.size w w' := by
 refine calls_of_run (F := [(0, _), (1, _)]) Tryz.func98 rfl Tryz.ntmps98 rfl rfl ?_
 have hO0 := Own.init w
 refine run_seq <| run_region <| rl_v rfl rfl rfl (ov_assign rfl rfl) <| rl_v rfl rfl rfl (ov_assign rfl rfl) <| rl_nil <| run_seq <| run_cond_f rfl <| run_skip <| run_seq <| run_region <| rl_v rfl rfl rfl (ov_move rfl rfl) <| rl_v rfl rfl rfl (ov_move rfl rfl) ?_
 refine rl_call callable_136 rfl rfl rfl rfl rfl rfl (mul64K_any x y _ hx hy) (fun e1 w2 hp3 => ?_)
 obtain ⟨rfl, hb⟩ := hp3
 refine ⟨_, rfl, ?_⟩
 have hO4 := hO0.past hb
 refine rl_v rfl rfl rfl (ov_move rfl rfl) <| rl_v rfl rfl rfl (ov_extract rfl rfl (by rfl)) ?_
 refine rl_v rfl rfl rfl (ov_extract rfl rfl (by rfl)) ?_
 refine rl_v rfl rfl rfl (ov_assign rfl rfl) <| rl_v rfl rfl rfl (ov_assign rfl rfl) <| rl_nil <| run_seq <| run_region <| rl_v rfl rfl rfl (ov_move rfl rfl) <| rl_v rfl rfl rfl (ov_move rfl rfl) <| rl_v rfl rfl rfl (ov_assign rfl rfl) <| rl_v rfl rfl rfl (ov_assign rfl rfl) <| rl_nil <| run_ret Tryz.func98 (res2 Tryz.results98 rfl rfl) ?_
 exact ⟨rfl, hO4.below⟩
theorem repeatInt_any (ao : Option Addr) (c m : Nat) (x : Int) (w : World) (hm : 1 ≤ m) (hm2 : m ≤ 1000000)
  (h : IAt w.heap.size w ao 1 (fun _ => .int .i64 x)) :
  Calls Tryz.prog 62 #[.slice ao 1 c, .int .i64 m] w fun e w' =>
   ∃ b, e = .returned (.slice (some ⟨b, 0, none⟩) m m) ∧ Own w.heap.size w w' [some (vch b 3 m (fun _ => .int .i64 x))] := by
 obtain ⟨gb, go, hga, hrow⟩ := h.open
 have ew : IntKind.u64.wrap (m : Int) = m := IntWalk.u64_in _ (by omega)
 obtain rfl := hga (by omega)
 have ew1 : IntKind.u64.wrap ((1 : Nat) : Int) * IntKind.u64.wrap (m : Int) = m := by
  rw [ew, show IntKind.u64.wrap ((1 : Nat) : Int) = 1 from IntWalk.u64_in _ (by omega), Int.one_mul]
 have ei : IntKind.i64.wrap (IntKind.u64.wrap ((1 : Nat) : Int) * IntKind.u64.wrap (m : Int)) = m := by rw [ew1]; exact IntWalk.i64_in _ (by omega)
 refine calls_of_run (F := [(0, _), (1, _)]) Tryz.func62 rfl Tryz.ntmps62 rfl rfl ?_
 have hO0 := Own.init w
 refine run_seq <| run_region <| rl_v rfl rfl rfl (ov_assign rfl rfl) <| rl_nil <| run_seq <| run_seq <| run_region <| rl_v rfl rfl rfl (ov_move rfl rfl) <| rl_v rfl rfl rfl (ov_lss rfl rfl rfl) <| rl_nil ?_
 first | refine run_cond_dec rfl (fun h1 => ?_) (fun h1 => ?_) | refine run_cond rfl (fun h1 => ?_) (fun h1 => ?_)
 ·exfalso; omega
 ·refine run_skip <| run_seq <| run_region <| rl_v rfl rfl rfl (ov_move rfl rfl) <| rl_v rfl rfl rfl (ov_len rfl Tryz.underlying36 rfl) <| rl_v rfl rfl rfl (ov_conv rfl Tryz.underlying3 Tryz.underlying56 rfl) <| rl_v rfl rfl rfl (ov_move rfl rfl) <| rl_v rfl rfl rfl (ov_conv rfl Tryz.underlying3 Tryz.underlying56 rfl) ?_
  refine rl_call callable_98 rfl rfl rfl rfl rfl rfl (mul_any _ _ _ ⟨by decide, by decide⟩ ⟨by rw [ew]; omega, by rw [ew]; omega⟩) (fun e1 w2 hp3 => ?_)
  obtain ⟨rfl, hb⟩ := hp3
  refine ⟨_, rfl, ?_⟩
  have hO4 := hO0.past hb
  refine rl_v rfl rfl rfl (ov_move rfl rfl) <| rl_v rfl rfl rfl (ov_extract rfl rfl (by rfl)) ?_
  refine rl_v rfl rfl rfl (ov_extract rfl rfl (by rfl)) ?_
  refine rl_v rfl rfl rfl (ov_assign rfl rfl) <| rl_v rfl rfl rfl (ov_assign rfl rfl) <| rl_nil <| run_seq <| run_seq <| run_region <| rl_v rfl rfl rfl (ov_move rfl rfl) <| rl_v rfl rfl rfl (ov_gtr rfl rfl rfl) <| rl_v rfl rfl rfl (ov_move rfl rfl) ?_
  first | refine rl_split_dec 23 rfl (fun hg5 => ?_) (fun hg5 => ?_) | refine rl_split 23 rfl (fun hg5 => ?_) (fun hg5 => ?_)
  ·refine rl_gskip rfl rfl rfl rfl rfl rfl <| rl_gskip rfl rfl rfl rfl rfl rfl <| rl_v rfl rfl rfl (ov_pick_t rfl rfl rfl) <| rl_nil <| run_cond_t rfl ?_
   exfalso; omega
  ·refine rl_gv rfl rfl rfl rfl rfl (ov_move rfl rfl) <| rl_gv rfl rfl rfl rfl rfl (ov_gtr rfl rfl rfl) <| rl_v rfl rfl rfl (ov_pick_f rfl rfl rfl) <| rl_nil ?_
   first | refine run_cond_dec rfl (fun h3 => ?_) (fun h3 => ?_) | refine run_cond rfl (fun h3 => ?_) (fun h3 => ?_)
   ·exfalso; omega
   ·refine run_skip <| run_seq <| run_region <| rl_v rfl rfl rfl (ov_move rfl rfl) <| rl_v rfl rfl rfl (ov_conv rfl Tryz.underlying56 Tryz.underlying3 rfl) ?_
    refine rl_make (m) rfl rfl rfl rfl Tryz.underlying36 info_3 rfl hO4 rfl rfl (by omega) (by omega) ⟨by omega, by omega⟩ (fun b w6 hO7 hs8 => ?_)
    refine rl_v rfl rfl rfl (ov_assign rfl rfl) <| rl_nil <| run_seq <| run_region <| rl_v rfl rfl rfl (ov_move rfl rfl) <| rl_v rfl rfl rfl (ov_move rfl rfl) <| rl_ow rfl (ow_copy (1) rfl rfl rfl Tryz.underlying36 (by kernel_rfl) hO7 0 rfl rfl rfl (by omega) (by omega) (fun i h0 hi => hrow _ hO7.below i h0 (by omega)) (fun _ => rfl)) ?_
    rintro _ w9 ⟨rfl, hO10, hs11⟩
    refine rl_v rfl rfl rfl (ov_assign rfl rfl) <| rl_nil <| run_seq <| run_block <| Run.keep [7, 8] (F' := [(7, _), (8, _)]) rfl <| run_loop2 (fun (k : Int) (G : Int → Value) => [(8, .int .i64 k)]) [7] (fun (k : Int) (G : Int → Value) (w12 : World) => 1 ≤ k ∧ k ≤ m ∧ (∀ i : Int, 0 ≤ i → i < k → G i = .int .i64 x) ∧ (∀ i, (G i).oneCell' = true) ∧ Own w.heap.size w w12 [some (vch b 3 m G)]) (fun (k : Int) (G : Int → Value) => ((m : Int) - k).toNat) (1) (fun j => if ((0 : Nat) : Int) ≤ j ∧ j < ((0 : Nat) : Int) + ((1 : Nat) : Int) then .int .i64 x else .int .i64 0) ?_ (And.intro (by exact slot_int rfl (by first | omega)) (And.intro rfl trivial)) ?_
    ·exact ⟨by omega, by omega, fun i h0 h1 => if_pos (by omega), fun i => by (dsimp only; split <;> rfl), hO10⟩
    intro k G w12 hIw12 ih13
    obtain ⟨hk0, hk1, hG, hG1, hO⟩ := hIw12
    show Run _ _ _ _ [(8, _), (7, _)] _ _
    refine run_seq <| run_seq <| run_region <| rl_v rfl rfl rfl (ov_move rfl rfl) <| rl_v rfl rfl rfl (ov_move rfl rfl) <| rl_v rfl rfl rfl (ov_len rfl Tryz.underlying36 rfl) <| rl_v rfl rfl rfl (ov_lss rfl rfl rfl) <| rl_nil ?_
    first | refine run_cond_dec rfl (fun h5 => ?_) (fun h5 => ?_) | refine run_cond rfl (fun h5 => ?_) (fun h5 => ?_)
    ·refine run_skip <| run_block <| run_held (fun w' => Own w.heap.size w w' ([none])) mixed ?_
     have hO15 := hO.drew
     generalize World.drew w12 = w14 at hO15 ⊢
     have hS16 : Own w.heap.size w w14 ([none]) := by exact ⟨hO15.below, hO15.hB, by simp, by simp, by simp⟩
     refine rh_v 0 rfl (by kernel_rfl) rfl rfl rfl hS16 (fun _ hS => ov_move rfl rfl) ?_
     refine rh_v 1 rfl (by kernel_rfl) rfl rfl rfl hS16 (fun _ hS => ov_move rfl rfl) ?_
     refine rh_v 2 rfl (by kernel_rfl) rfl rfl rfl hS16 (fun _ hS => ov_move rfl rfl) ?_
     refine rh_v 3 rfl (by kernel_rfl) rfl rfl rfl hS16 (fun _ hS => ov_sliceL rfl Tryz.underlying36 (by kernel_rfl) (s := 1) rfl rfl ⟨by omega, by omega⟩ (by omega) rfl) ?_
     refine rh_v 4 rfl (by kernel_rfl) rfl rfl rfl hS16 (fun _ hS => ov_move rfl rfl) ?_
     refine rh_v 5 rfl (by kernel_rfl) rfl rfl rfl hS16 (fun _ hS => ov_move rfl rfl) ?_
     refine rh_v 6 rfl (by kernel_rfl) rfl rfl rfl hS16 (fun _ hS => ov_sliceH (k.toNat) (s := 1) rfl Tryz.underlying36 (by kernel_rfl) rfl rfl (by omega) (by omega)) ?_
     refine rh_any1 7 (by kernel_rfl) ?_
     refine rc_op rfl rfl (ow_copy ((min k.toNat (m - k.toNat))) rfl rfl rfl Tryz.underlying36 (by kernel_rfl) hO15 0 rfl rfl rfl (by rfl) (by omega) (fun i h0 hi => hO15.cellI 0 rfl i h0 (by omega)) (hG1)) ?_
     rintro _ w17 ⟨rfl, hO18, hs19⟩
     have hS20 : Own w.heap.size w w17 ([none]) := by exact ⟨hO18.below, hO18.hB, by simp, by simp, by simp⟩
     refine ⟨hS20, ?_⟩
     refine rh_v 8 rfl (by kernel_rfl) rfl rfl rfl hS20 (fun _ hS => ov_add rfl rfl rfl (by omega)) ?_
     refine rh_v 9 rfl (by kernel_rfl) rfl rfl rfl hS20 (fun _ hS => ov_assign rfl rfl) ?_
     refine rh_done (by kernel_rfl) ?_
     refine run_inBlock ?_
     refine Run.use (ih13 (k + ((min k.toNat (m - k.toNat) : Nat) : Int)) (fun j => if (((0 + k.toNat * 1 : Nat) : Int)) ≤ j ∧ j < ((0 + k.toNat * 1 : Nat) : Int) + ((min k.toNat (m - k.toNat) : Nat) : Int) then G (j - ((0 + k.toNat * 1 : Nat) : Int)) else G j) _ ?_ ?_) (And.intro (by exact slot_int rfl (by first | omega)) (And.intro rfl trivial))
     ·first | omega | (dsimp only; omega)
     ·exact ⟨by omega, by omega, fun i h0 h1 => by split; exact hG _ (by omega) (by omega); exact hG _ (by omega) (by omega), fun i => by split <;> exact hG1 _, hO18⟩
    ·refine run_exit rfl <| run_seq <| run_region <| rl_v rfl rfl rfl (ov_move rfl rfl) <| rl_v rfl rfl rfl (ov_assign rfl rfl) <| rl_nil <| run_ret Tryz.func62 (res1 Tryz.results62 rfl) ?_
     exact ⟨b, rfl, hO.congrI 0 rfl (fun i h0 hi => hG i h0 (by omega))⟩
end Go.Proofs.YtbepolognfdkeaaGreat
