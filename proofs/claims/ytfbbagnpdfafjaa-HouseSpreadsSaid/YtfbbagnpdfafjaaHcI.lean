import Derived.Test.YtfbbagnpdfafjaaShrD
set_option maxRecDepth 100000
namespace Go.Proofs.Ytfbbagnpdfafjaa
open Go.RowKit Go.Proofs
section
variable {P : Program} {N : Nat} {o : Oper} {F : Fr} {w : World} {T U : TypeId} {x y : Operand} {m n : Int}
theorem ov_shrI {k : IntKind} (ho : o.op = .binOp .shr T x y U) (hx : Fr.ev F x = some (.int .i64 m)) (hy : Fr.ev F y = some (.int k n)) (hm : 0 ≤ m) (hn : 0 ≤ n ∧ n ≤ 62) : OpV P N o F w (.int .i64 (m / 2 ^ n.toNat)) := by
 refine ov_bin ho hx hy ?_
 have h1 : ¬ n < 0 := by omega
 have h2 : ¬ (64 : Int) ≤ n := by omega
 simp [binOp, Op.shift, IntKind.bits, Int.fdiv_eq_ediv, h1, h2]
end
theorem md1 {q d r a B : Int} (h : q * d + r = a * B) : 2 * q * d + (2 * r + a) = a * (2 * B + 1) := by
 rw [Int.mul_assoc, Int.mul_add, Int.mul_one, show a * (2 * B) = 2 * (a * B) from Int.mul_left_comm _ _ _]
 omega
theorem md0 {q d r a B : Int} (h : q * d + r = a * B) : 2 * q * d + 2 * r = a * (2 * B) := by
 rw [Int.mul_assoc, show a * (2 * B) = 2 * (a * B) from Int.mul_left_comm _ _ _]
 omega
theorem md_le {q d r a B : Int} (h : q * d + r = a * B) (hr : 0 ≤ r) (ha : a ≤ d) (hB : 0 ≤ B) (hd : 0 < d) : q ≤ B := by
 have h1 : a * B ≤ d * B := Int.mul_le_mul_of_nonneg_right ha hB
 have h2 : q * d ≤ B * d := by rw [Int.mul_comm B]; omega
 exact Int.le_of_mul_le_mul_right h2 hd
theorem two_pos (k : Nat) : (0 : Int) < 2 ^ k := Int.pow_pos (by decide)
theorem half_eq (b : Int) (k : Nat) : b / 2 ^ k = 2 * (b / 2 ^ (k + 1)) + b / 2 ^ k % 2 := by
 have e : b / 2 ^ (k + 1) = b / 2 ^ k / 2 := by rw [Int.pow_succ, Int.ediv_ediv_of_nonneg (Int.le_of_lt (two_pos k))]
 rw [e]
 omega
theorem div_le_self' (b : Int) (hb : 0 ≤ b) (k : Nat) : 0 ≤ b / 2 ^ k ∧ b / 2 ^ k ≤ b := ⟨Int.ediv_nonneg hb (Int.le_of_lt (two_pos k)), Int.ediv_le_self _ hb⟩
theorem muldiv_any (a b d : Int) (w : World) (ha : 0 ≤ a ∧ a ≤ d) (hb : 0 ≤ b ∧ b ≤ 1000000000000000000) (hd : 0 < d ∧ d ≤ 2000000000000000000) :
  Calls Try.prog 140 #[iv a, iv b, iv d] w fun e w' => e = .returned (.tuple #[iv (a * b / d), iv (a * b % d)]) ∧ w' = w := by
 refine calls_of_run (F := [(0, _), (1, _), (2, _)]) Try.func140 rfl Try.ntmps140 rfl rfl ?_
 have hO0 := Own.init w
 refine run_seq <| run_region <| rl_v rfl rfl rfl (ov_assign rfl rfl) <| rl_v rfl rfl rfl (ov_assign rfl rfl) <| rl_nil <| run_seq <| run_region <| rl_v rfl rfl rfl (ov_assign rfl rfl) <| rl_v rfl rfl rfl (ov_assign rfl rfl) <| rl_nil <| run_seq <| run_seq <| run_region <| rl_v rfl rfl rfl (ov_assign rfl rfl) <| rl_nil <| run_block <| Run.keep [0, 1, 2, 8, 9, 10] (F' := [(0, _), (1, _), (2, _), (8, _), (9, _), (10, _)]) rfl <| run_loop3 (fun (t : Int) (q : Int) (r : Int) => [(8, .int .i64 q), (9, .int .i64 r), (10, .int .i64 t)]) [0, 1, 2] (fun (t : Int) (q : Int) (r : Int) (w1 : World) => (-1 ≤ t ∧ t ≤ 62) ∧ q * d + r = a * (b / 2 ^ (t + 1).toNat) ∧ (0 ≤ r ∧ r < d ∧ 0 ≤ q) ∧ w1 = w) (fun (t : Int) (q : Int) (r : Int) => (t + 1).toNat) (62) (0) (0) ?_ (And.intro (by exact slot_int rfl (by first | omega)) (And.intro (by exact slot_int rfl (by first | omega)) (And.intro (by exact slot_int rfl (by first | omega)) (And.intro rfl (And.intro rfl (And.intro rfl trivial)))))) ?_
 ·exact ⟨by omega, by rw [show ((62 : Int) + 1).toNat = 63 from rfl, Int.ediv_eq_zero_of_lt hb.1 (by omega)]; omega, by omega, rfl⟩
 intro t q r w1 hIw1 ih2
 obtain ⟨ht, hq, hr, hw⟩ := hIw1
 show Run _ _ _ _ [(8, _), (9, _), (10, _), (0, _), (1, _), (2, _)] _ _
 refine run_seq <| run_seq <| run_region <| rl_v rfl rfl rfl (ov_move rfl rfl) <| rl_v rfl rfl rfl (ov_geq rfl rfl rfl) <| rl_nil ?_
 first | refine run_cond_dec rfl (fun h1 => ?_) (fun h1 => ?_) | refine run_cond rfl (fun h1 => ?_) (fun h1 => ?_)
 ·have hB := div_le_self' b hb.1 (t + 1).toNat
  have hB2 := div_le_self' b hb.1 t.toNat
  have hql := md_le hq hr.1 ha.2 hB.1 hd.1
  have hh := half_eq b t.toNat
  rw [show t.toNat + 1 = (t + 1).toNat by omega] at hh
  refine run_skip <| run_seq <| run_block <| run_seq <| run_region <| rl_v rfl rfl rfl (ov_move rfl rfl) <| rl_v rfl rfl rfl (ov_mul rfl rfl rfl (by omega)) ?_
  refine rl_v rfl rfl rfl (ov_assign rfl rfl) <| rl_nil <| run_seq <| run_region <| rl_v rfl rfl rfl (ov_move rfl rfl) <| rl_v rfl rfl rfl (ov_mul rfl rfl rfl (by omega)) ?_
  refine rl_v rfl rfl rfl (ov_assign rfl rfl) <| rl_nil <| run_seq <| run_seq <| run_region <| rl_v rfl rfl rfl (ov_move rfl rfl) <| rl_v rfl rfl rfl (ov_move rfl rfl) <| rl_v rfl rfl rfl (nv (ov_conv rfl Try.underlying3 Try.underlying42 rfl) (wPos h1 (by omega))) ?_
  refine rl_v rfl rfl rfl (nv (ov_shrI rfl rfl rfl hb.1 ⟨by omega, by omega⟩) (by rw [Int.toNat_natCast])) ?_
  refine rl_v rfl rfl rfl (ov_rem rfl rfl rfl hB2.1 (by omega)) ?_
  refine rl_v rfl rfl rfl (ov_eql rfl rfl rfl) <| rl_nil <| Run.keep [0, 1, 2, 8, 9, 10, 24] (F' := [(0, _), (1, _), (2, _), (8, _), (9, _), (10, _), (24, _)]) rfl <| run_join1 (fun (r2 : Int) => [(9, .int .i64 r2)]) [0, 1, 2, 8, 10] (fun (r2 : Int) (w3 : World) => 2 * q * d + r2 = a * (b / 2 ^ t.toNat) ∧ (0 ≤ r2 ∧ r2 < 3 * d) ∧ w3 = w) (fun hk4 => ?_) ?_
  ·first | refine run_cond_dec rfl (fun c1 => ?_) (fun c1 => ?_) | refine run_cond rfl (fun c1 => ?_) (fun c1 => ?_)
   ·refine run_region <| rl_v rfl rfl rfl (ov_move rfl rfl) <| rl_v rfl rfl rfl (ov_move rfl rfl) <| rl_v rfl rfl rfl (ov_add rfl rfl rfl (by omega)) ?_
    refine rl_v rfl rfl rfl (ov_assign rfl rfl) <| rl_nil ?_
    refine Run.use (hk4 (2 * r + a) _ ?_) (And.intro (by exact slot_int rfl (by first | omega)) (And.intro rfl (And.intro rfl (And.intro rfl (And.intro rfl (And.intro rfl trivial))))))
    exact ⟨by rw [hh, c1]; exact md1 hq, by omega, hw⟩
   ·have c0 : b / 2 ^ t.toNat % 2 = 0 := by omega
    refine run_skip ?_
    refine Run.use (hk4 (2 * r) _ ?_) (And.intro (by exact slot_int rfl (by first | omega)) (And.intro rfl (And.intro rfl (And.intro rfl (And.intro rfl (And.intro rfl trivial))))))
    exact ⟨by rw [hh, c0, Int.add_zero]; exact md0 hq, by omega, hw⟩
  ·intro r2 w3 hJw3
   obtain ⟨hr2, hr3, hw3⟩ := hJw3
   show Run _ _ _ _ [(9, _), (0, _), (1, _), (2, _), (8, _), (10, _)] _ _
   refine run_block <| Run.keep [0, 1, 2, 8, 9, 10] (F' := [(0, _), (1, _), (2, _), (8, _), (9, _), (10, _)]) rfl <| run_loop2 (fun (q : Int) (r : Int) => [(8, .int .i64 q), (9, .int .i64 r)]) [0, 1, 2, 10] (fun (q : Int) (r : Int) (w5 : World) => q * d + r = a * (b / 2 ^ t.toNat) ∧ (0 ≤ r ∧ r < 3 * d ∧ 0 ≤ q) ∧ w5 = w) (fun (q : Int) (r : Int) => r.toNat) (2 * q) (r2) ?_ (And.intro (by exact slot_int rfl (by first | omega)) (And.intro (by exact slot_int rfl (by first | omega)) (And.intro rfl (And.intro rfl (And.intro rfl (And.intro rfl trivial)))))) ?_
   ·exact ⟨hr2, by omega, hw3⟩
   intro q r w5 hIw5 ih6
   obtain ⟨hq4, hr4, hw4⟩ := hIw5
   show Run _ _ _ _ [(8, _), (9, _), (0, _), (1, _), (2, _), (10, _)] _ _
   refine run_seq <| run_seq <| run_region <| rl_v rfl rfl rfl (ov_move rfl rfl) <| rl_v rfl rfl rfl (ov_move rfl rfl) <| rl_v rfl rfl rfl (ov_geq rfl rfl rfl) <| rl_nil ?_
   first | refine run_cond_dec rfl (fun h2 => ?_) (fun h2 => ?_) | refine run_cond rfl (fun h2 => ?_) (fun h2 => ?_)
   ·have hql2 := md_le hq4 hr4.1 ha.2 hB2.1 hd.1
    refine run_skip <| run_block <| run_seq <| run_region <| rl_v rfl rfl rfl (ov_move rfl rfl) <| rl_v rfl rfl rfl (ov_move rfl rfl) <| rl_v rfl rfl rfl (ov_sub rfl rfl rfl (by omega)) ?_
    refine rl_v rfl rfl rfl (ov_assign rfl rfl) <| rl_nil <| run_region <| rl_v rfl rfl rfl (ov_move rfl rfl) <| rl_v rfl rfl rfl (ov_add rfl rfl rfl (by omega)) ?_
    refine rl_v rfl rfl rfl (ov_assign rfl rfl) <| rl_nil <| run_inBlock ?_
    refine Run.use (ih6 (q + 1) (r - d) _ ?_ ?_) (And.intro (by exact slot_int rfl (by first | omega)) (And.intro (by exact slot_int rfl (by first | omega)) (And.intro rfl (And.intro rfl (And.intro rfl (And.intro rfl trivial))))))
    ·first | omega | (dsimp only; omega)
    ·exact ⟨by rw [Int.add_mul, Int.one_mul]; omega, by omega, hw4⟩
   ·refine run_exit rfl <| run_inBlock <| run_region <| rl_v rfl rfl rfl (ov_move rfl rfl) <| rl_v rfl rfl rfl (ov_sub rfl rfl rfl (by omega)) ?_
    refine rl_v rfl rfl rfl (ov_assign rfl rfl) <| rl_nil ?_
    refine Run.use (ih2 (t - 1) (q) (r) _ ?_ ?_) (And.intro (by exact slot_int rfl (by first | omega)) (And.intro (by exact slot_int rfl (by first | omega)) (And.intro (by exact slot_int rfl (by first | omega)) (And.intro rfl (And.intro rfl (And.intro rfl trivial))))))
    ·first | omega | (dsimp only; omega)
    ·exact ⟨by omega, by rw [show (t - 1 + 1).toNat = t.toNat by omega]; exact hq4, by omega, hw4⟩
 ·obtain rfl : t = -1 := by omega
  rw [show ((-1 : Int) + 1).toNat = 0 from rfl, Int.pow_zero, Int.ediv_one] at hq
  have hu := (Int.ediv_emod_unique (a := a * b) (b := d) (r := r) (q := q) hd.1).2 ⟨by rw [Int.mul_comm d]; omega, hr.1, hr.2.1⟩
  refine run_exit rfl <| run_seq <| run_region <| rl_v rfl rfl rfl (ov_move rfl rfl) <| rl_v rfl rfl rfl (ov_move rfl rfl) <| rl_v rfl rfl rfl (ov_assign rfl rfl) <| rl_v rfl rfl rfl (ov_assign rfl rfl) <| rl_nil <| run_ret Try.func140 (res2 Try.results140 rfl rfl) ?_
  exact ⟨by rw [hu.1, hu.2], hw⟩
theorem gShare_any (total : Int) (ao : Option Addr) (n c B : Nat) (W : Int → Int) (H : List (Option Blk)) (w0 w : World) (hO : Own B w0 w H) (hs : SrcI H ao n W) (hn : n < 20) (hW : ∀ i : Int, 0 ≤ i → i < n → 0 ≤ W i ∧ W i ≤ 100000000000000000) (ht : 0 ≤ total ∧ total ≤ sm W n) :
  Calls Try.prog 124 #[iv total, .slice ao n c] w fun e w' => ∃ b out, e = .returned (.slice (some ⟨b, 0, none⟩) n n) ∧ Shr total n W out ∧ Own B w0 w' (some (vch b 2 n (fun i => iv (out i))) :: H) := by
 have hSn : ∀ k : Int, 0 ≤ k → k ≤ n → 0 ≤ sm W k ∧ sm W k ≤ k * 100000000000000000 := fun k k0 k1 => ⟨sm_nonneg fun i i0 i1 => (hW i i0 (by omega)).1, sm_bound _ k0 fun i i0 i1 => (hW i i0 (by omega)).2⟩
 have hSN := hSn n (by omega) (by omega)
 refine calls_of_run (F := [(0, _), (1, _)]) Try.func124 rfl Try.ntmps124 rfl rfl <| run_seq <| run_region <| rl_v rfl rfl rfl (ov_assign rfl rfl) <| rl_nil <| run_seq <| run_region <| rl_v rfl rfl rfl (ov_assign rfl rfl) <| rl_nil <| run_seq <| run_seq <| run_region <| rl_v rfl rfl rfl (ov_assign rfl rfl) <| rl_nil <| run_block <| Run.keep [0, 1, 5, 6] (F' := [(0, _), (1, _), (5, _), (6, _)]) rfl <| run_loop1 (fun (k : Int) => [(5, .int .i64 (sm W k)), (6, .int .i64 k)]) [0, 1] (fun (k : Int) (w1 : World) => (0 ≤ k ∧ k ≤ n) ∧ Own B w0 w1 H) (fun (k : Int) => ((n : Int) - k).toNat) (0) ?_ (And.intro (by rfl) (And.intro (by exact slot_int rfl (by first | omega)) (And.intro rfl (And.intro rfl trivial)))) ?_
 ·exact ⟨by omega, hO⟩
 intro k w1 hIw1 ih2
 obtain ⟨hk, hO1⟩ := hIw1
 show Run _ _ _ _ [(5, _), (6, _), (0, _), (1, _)] _ _
 refine run_seq <| run_seq <| run_region <| rl_v rfl rfl rfl (ov_move rfl rfl) <| rl_v rfl rfl rfl (ov_move rfl rfl) <| rl_v rfl rfl rfl (ov_len rfl Try.underlying22 rfl) <| rl_v rfl rfl rfl (ov_lss rfl rfl rfl) <| rl_nil ?_
 first | refine run_cond_dec rfl (fun h1 => ?_) (fun h1 => ?_) | refine run_cond rfl (fun h1 => ?_) (fun h1 => ?_)
 ·obtain ⟨gb, go, hga, hrow⟩ := (hs B w0 w1 hO1).open
  have hk1 := hSn k (by omega) (by omega)
  have hwk := hW k (by omega) (by omega)
  have hsu := sm_succ W (k := k) (by omega)
  refine run_skip <| run_seq <| run_block <| run_region <| rl_v rfl rfl rfl (ov_move rfl rfl) <| rl_v rfl rfl rfl (ov_move rfl rfl) <| rl_v rfl rfl rfl (ov_move rfl rfl) <| rl_v rfl rfl rfl (ov_index1 rfl Try.underlying22 (by kernel_rfl) rfl rfl ⟨by omega, by omega⟩ (by exact (hga (by omega)))) ?_
  refine rl_v rfl rfl rfl (ov_load rfl Try.underlying2 rfl rfl (by exact hrow _ (Below.refl _ _) k (by omega) (by omega))) ?_
  refine rl_v rfl rfl rfl (ov_add rfl rfl rfl (by omega)) ?_
  refine rl_v rfl rfl rfl (ov_assign rfl rfl) <| rl_nil <| run_inBlock <| run_region <| rl_v rfl rfl rfl (ov_move rfl rfl) <| rl_v rfl rfl rfl (ov_add rfl rfl rfl (by omega)) ?_
  refine rl_v rfl rfl rfl (ov_assign rfl rfl) <| rl_nil ?_
  refine Run.use (ih2 (k + 1) _ ?_ ?_) (And.intro (by exact slot_int rfl (by first | omega)) (And.intro (by exact slot_int rfl (by first | omega)) (And.intro rfl (And.intro rfl trivial))))
  ·first | omega | (dsimp only; omega)
  ·exact ⟨by omega, hO1⟩
 ·obtain rfl : k = n := by omega
  refine run_exit rfl <| run_seq <| run_region <| rl_v rfl rfl rfl (ov_move rfl rfl) <| rl_v rfl rfl rfl (ov_len rfl Try.underlying22 rfl) <| rl_ow rfl (ow_make (n) rfl rfl rfl Try.underlying22 info_2 rfl hO1 rfl rfl (by rfl) (by rfl) ⟨by omega, by omega⟩) ?_
  rintro _ w3 ⟨b29, rfl, hO4, hs5⟩
  refine rl_v rfl rfl rfl (ov_assign rfl rfl) <| rl_nil <| run_seq <| run_seq <| run_region <| rl_v rfl rfl rfl (ov_move rfl rfl) <| rl_v rfl rfl rfl (ov_eql rfl rfl rfl) <| rl_nil ?_
  first | refine run_cond_dec rfl (fun hz => ?_) (fun hz => ?_) | refine run_cond rfl (fun hz => ?_) (fun hz => ?_)
  ·refine run_seq <| run_region <| rl_v rfl rfl rfl (ov_move rfl rfl) <| rl_v rfl rfl rfl (ov_assign rfl rfl) <| rl_nil <| run_ret Try.func124 (res1 Try.results124 rfl) ?_
   exact ⟨b29, fun _ => 0, rfl, ⟨by rw [if_pos hz, sm_const 0 (by omega)]; omega, fun i _ _ => .inl (by rw [hz, Int.ediv_zero]), fun i j _ _ _ _ e _ => (by rw [hz, Int.ediv_zero] at e; omega)⟩, hO4⟩
  ·have hn1 : 1 ≤ n := by
    refine Classical.byContradiction fun hx => hz ?_
    rw [show (n : Int) = 0 by omega]
    rfl
   have hS1 : 0 < sm W n := by omega
   have hq0 : ∀ i : Int, 0 ≤ i → i < n → 0 ≤ qoF total n W i ∧ qoF total n W i ≤ 100000000000000000 := fun i i0 i1 => by
    have h1 := hW i i0 i1
    refine ⟨Int.ediv_nonneg (Int.mul_nonneg ht.1 h1.1) (by omega), ?_⟩
    refine Int.le_trans (Int.ediv_le_of_le_mul hS1 (b := W i) ?_) h1.2
    rw [Int.mul_comm (W i)]
    exact Int.mul_le_mul_of_nonneg_right ht.2 h1.1
   have hr0 : ∀ i : Int, 0 ≤ i → i < n → 0 ≤ reF total n W i := fun i _ _ => Int.emod_nonneg _ (by omega)
   have hqs : ∀ k : Int, 0 ≤ k → k ≤ n → 0 ≤ sm (qoF total n W) k ∧ sm (qoF total n W) k ≤ k * 100000000000000000 := fun k k0 k1 => ⟨sm_nonneg fun i i0 i1 => (hq0 i i0 (by omega)).1, sm_bound _ k0 fun i i0 i1 => (hq0 i i0 (by omega)).2⟩
   refine run_skip <| run_seq <| run_region <| rl_v rfl rfl rfl (ov_move rfl rfl) <| rl_v rfl rfl rfl (ov_len rfl Try.underlying22 rfl) <| rl_ow rfl (ow_make (n) rfl rfl rfl Try.underlying22 info_2 rfl hO4 rfl rfl (by rfl) (by rfl) ⟨by omega, by omega⟩) ?_
   rintro _ w6 ⟨b35, rfl, hO7, hs8⟩
   have hs0 : sm (qoF total n W) 0 = 0 := rfl
   refine rl_v rfl rfl rfl (ov_assign rfl rfl) <| rl_nil <| run_seq <| run_region <| rl_v rfl rfl rfl (ov_move rfl rfl) <| rl_v rfl rfl rfl (ov_assign rfl rfl) <| rl_nil <| run_seq <| run_seq <| run_region <| rl_v rfl rfl rfl (ov_assign rfl rfl) <| rl_nil <| run_block <| Run.keep [0, 1, 5, 7, 8, 9, 10] (F' := [(0, _), (1, _), (5, _), (7, _), (8, _), (9, _), (10, _)]) rfl <| run_loop1 (fun (k : Int) => [(9, .int .i64 (total - sm (qoF total n W) k)), (10, .int .i64 k)]) [0, 1, 5, 7, 8] (fun (k : Int) (w9 : World) => (0 ≤ k ∧ k ≤ n) ∧ Own B w0 w9 (some (vch b35 2 n (fun i => iv (if i < k then reF total n W i else 0))) :: some (vch b29 2 n (fun i => iv (if i < k then qoF total n W i else 0))) :: H)) (fun (k : Int) => ((n : Int) - k).toNat) (0) ?_ (And.intro (by exact slot_int rfl (by first | omega)) (And.intro (by exact slot_int rfl (by first | omega)) (And.intro rfl (And.intro rfl (And.intro rfl (And.intro rfl (And.intro rfl trivial))))))) ?_
   ·exact ⟨by omega, ((hO7.congrI 0 rfl (G' := fun i => iv (if i < (0 : Int) then reF total n W i else 0)) (fun i i0 _ => by rw [if_neg (by omega)])).congrI 1 rfl (G' := fun i => iv (if i < (0 : Int) then qoF total n W i else 0)) (fun i i0 _ => by rw [if_neg (by omega)]))⟩
   intro k w9 hIw9 ih10
   obtain ⟨hk, hO2⟩ := hIw9
   show Run _ _ _ _ [(9, _), (10, _), (0, _), (1, _), (5, _), (7, _), (8, _)] _ _
   refine run_seq <| run_seq <| run_region <| rl_v rfl rfl rfl (ov_move rfl rfl) <| rl_v rfl rfl rfl (ov_move rfl rfl) <| rl_v rfl rfl rfl (ov_len rfl Try.underlying22 rfl) <| rl_v rfl rfl rfl (ov_lss rfl rfl rfl) <| rl_nil ?_
   first | refine run_cond_dec rfl (fun h2 => ?_) (fun h2 => ?_) | refine run_cond rfl (fun h2 => ?_) (fun h2 => ?_)
   ·obtain ⟨gb, go, hga, hrow⟩ := (hs B w0 w9 hO2.tail.tail).open
    have hwk := hW k (by omega) (by omega)
    have hqk := hq0 k (by omega) (by omega)
    have hqk1 := hqs k (by omega) (by omega)
    have hsu := sm_succ (qoF total n W) (k := k) (by omega)
    refine run_skip <| run_seq <| run_block <| run_seq <| run_region <| rl_v rfl rfl rfl (ov_move rfl rfl) <| rl_v rfl rfl rfl (ov_move rfl rfl) <| rl_v rfl rfl rfl (ov_move rfl rfl) <| rl_v rfl rfl rfl (ov_index1 rfl Try.underlying22 (by kernel_rfl) rfl rfl ⟨by omega, by omega⟩ (by exact (hga (by omega)))) ?_
    refine rl_v rfl rfl rfl (ov_load rfl Try.underlying2 rfl rfl (by exact hrow _ (Below.refl _ _) k (by omega) (by omega))) ?_
    refine rl_v rfl rfl rfl (ov_move rfl rfl) ?_
    refine rl_call callable_140 rfl rfl rfl rfl rfl rfl (muldiv_any total (W k) (sm W n) w9 ht ⟨hwk.1, by omega⟩ ⟨hS1, by omega⟩) (fun e11 w12 hp13 => ?_)
    obtain ⟨rfl, hw⟩ := hp13
    refine ⟨_, rfl, ?_⟩
    subst hw
    refine rl_v rfl rfl rfl (ov_move rfl rfl) <| rl_v rfl rfl rfl (ov_extract rfl rfl (by rfl)) ?_
    refine rl_v rfl rfl rfl (ov_extract rfl rfl (by rfl)) ?_
    refine rl_v rfl rfl rfl (ov_assign rfl rfl) <| rl_v rfl rfl rfl (ov_assign rfl rfl) <| rl_nil <| run_seq <| run_region <| rl_v rfl rfl rfl (ov_move rfl rfl) <| rl_v rfl rfl rfl (ov_move rfl rfl) <| rl_v rfl rfl rfl (ov_move rfl rfl) <| rl_v rfl rfl rfl (ov_index1 rfl Try.underlying22 (by kernel_rfl) rfl rfl ⟨by omega, by omega⟩ (by rfl)) ?_
    refine rl_ow rfl (ow_storeI rfl rfl (by kernel_rfl) hO2 1 rfl rfl ⟨by omega, by omega⟩ rfl) ?_
    rintro _ w14 ⟨rfl, hO15, hs16⟩
    refine rl_nil <| run_seq <| run_region <| rl_v rfl rfl rfl (ov_move rfl rfl) <| rl_v rfl rfl rfl (ov_move rfl rfl) <| rl_v rfl rfl rfl (ov_move rfl rfl) <| rl_v rfl rfl rfl (ov_index1 rfl Try.underlying22 (by kernel_rfl) rfl rfl ⟨by omega, by omega⟩ (by rfl)) ?_
    refine rl_ow rfl (ow_storeI rfl rfl (by kernel_rfl) hO15 0 rfl rfl ⟨by omega, by omega⟩ rfl) ?_
    rintro _ w17 ⟨rfl, hO18, hs19⟩
    have eq1 : total * W k / sm W n = qoF total n W k := rfl
    refine rl_nil <| run_region <| rl_v rfl rfl rfl (ov_move rfl rfl) <| rl_v rfl rfl rfl (ov_move rfl rfl) <| rl_v rfl rfl rfl (ov_sub rfl rfl rfl (by omega)) ?_
    refine rl_v rfl rfl rfl (ov_assign rfl rfl) <| rl_nil <| run_inBlock <| run_region <| rl_v rfl rfl rfl (ov_move rfl rfl) <| rl_v rfl rfl rfl (ov_add rfl rfl rfl (by omega)) ?_
    refine rl_v rfl rfl rfl (ov_assign rfl rfl) <| rl_nil ?_
    refine Run.use (ih10 (k + 1) _ ?_ ?_) (And.intro (by exact slot_int rfl (by first | omega)) (And.intro (by exact slot_int rfl (by first | omega)) (And.intro rfl (And.intro rfl (And.intro rfl (And.intro rfl (And.intro rfl trivial)))))))
    ·first | omega | (dsimp only; omega)
    ·exact ⟨by omega, ((hO18.congrI 0 rfl (G' := fun i => iv (if i < k + 1 then reF total n W i else 0)) (fun i _ _ => congrArg iv (upd_lt rfl i))).congrI 1 rfl (G' := fun i => iv (if i < k + 1 then qoF total n W i else 0)) (fun i _ _ => congrArg iv (upd_lt rfl i)))⟩
   ·obtain rfl : k = n := by omega
    have hO3 := (hO2.congrI 0 rfl (G' := fun i => iv (reF total n W i)) (fun i _ i1 => by rw [if_pos i1])).congrI 1 rfl (G' := fun i => iv (qoF total n W i)) (fun i _ i1 => by rw [if_pos i1])
    have hleft := left_rng (W := W) (total := total) (fun i i0 i1 => (hW i i0 i1).1) hS1 ht.1
    have hlq : 0 ≤ total - sm (qoF total n W) n ∧ total - sm (qoF total n W) n < n := hleft
    refine run_exit rfl <| run_seq <| run_block <| Run.keep [7, 8, 9] (F' := [(7, _), (8, _), (9, _)]) rfl <| run_loop3 (fun (k : Int) (out : Int → Int) (rest : Int → Int) => [(9, .int .i64 (total - sm (qoF total n W) n - k))]) [7, 8] (fun (k : Int) (out : Int → Int) (rest : Int → Int) (w20 : World) => (0 ≤ k ∧ k ≤ total - sm (qoF total n W) n) ∧ Pk (qoF total n W) (reF total n W) n k out rest ∧ Own B w0 w20 (some (vch b35 2 n (fun i => iv (rest i))) :: some (vch b29 2 n (fun i => iv (out i))) :: H)) (fun (k : Int) (out : Int → Int) (rest : Int → Int) => (total - sm (qoF total n W) n - k).toNat) (0) (qoF total n W) (reF total n W) ?_ (And.intro (by exact slot_int rfl (by first | omega)) (And.intro rfl (And.intro rfl trivial))) ?_
    ·exact ⟨by omega, Pk.init hr0, hO3⟩
    intro k out rest w20 hIw20 ih21
    obtain ⟨hk, hpk, hO4⟩ := hIw20
    show Run _ _ _ _ [(9, _), (7, _), (8, _)] _ _
    refine run_seq <| run_seq <| run_region <| rl_v rfl rfl rfl (ov_move rfl rfl) <| rl_v rfl rfl rfl (ov_gtr rfl rfl rfl) <| rl_nil ?_
    first | refine run_cond_dec rfl (fun h3 => ?_) (fun h3 => ?_) | refine run_cond rfl (fun h3 => ?_) (fun h3 => ?_)
    ·refine run_skip <| run_seq <| run_block <| run_seq <| run_region <| rl_v rfl rfl rfl (ov_assign rfl rfl) <| rl_nil <| run_seq <| run_seq <| run_region <| rl_v rfl rfl rfl (ov_assign rfl rfl) <| rl_nil <| run_block <| Run.keep [7, 8, 9, 13, 14] (F' := [(7, _), (8, _), (9, _), (13, _), (14, _)]) rfl <| run_loop2 (fun (j : Int) (b : Int) => [(13, .int .i64 b), (14, .int .i64 j)]) [7, 8, 9] (fun (j : Int) (b : Int) (w22 : World) => (1 ≤ j ∧ j ≤ n) ∧ Gr rest j b ∧ Own B w0 w22 (some (vch b35 2 n (fun i => iv (rest i))) :: some (vch b29 2 n (fun i => iv (out i))) :: H)) (fun (j : Int) (b : Int) => ((n : Int) - j).toNat) (1) (0) ?_ (And.intro (by exact slot_int rfl (by first | omega)) (And.intro (by exact slot_int rfl (by first | omega)) (And.intro rfl (And.intro rfl (And.intro rfl trivial))))) ?_
     ·exact ⟨by omega, Gr.init, hO4⟩
     intro j b w22 hIw22 ih23
     obtain ⟨hj, hgr, hO5⟩ := hIw22
     show Run _ _ _ _ [(13, _), (14, _), (7, _), (8, _), (9, _)] _ _
     refine run_seq <| run_seq <| run_region <| rl_v rfl rfl rfl (ov_move rfl rfl) <| rl_v rfl rfl rfl (ov_move rfl rfl) <| rl_v rfl rfl rfl (ov_len rfl Try.underlying22 rfl) <| rl_v rfl rfl rfl (ov_lss rfl rfl rfl) <| rl_nil ?_
     first | refine run_cond_dec rfl (fun h4 => ?_) (fun h4 => ?_) | refine run_cond rfl (fun h4 => ?_) (fun h4 => ?_)
     ·have hb1 := hgr.1
      refine run_skip <| run_seq <| run_block <| run_seq <| run_quiet mixed (by kernel_rfl) ?_
      refine rq_v rfl rfl rfl (fun _ => ov_move rfl rfl) ?_
      refine rq_v rfl rfl rfl (fun _ => ov_move rfl rfl) ?_
      refine rq_v rfl rfl rfl (fun _ => ov_index1 rfl Try.underlying22 (by kernel_rfl) rfl rfl ⟨by omega, by omega⟩ rfl) ?_
      refine rq_v rfl rfl rfl (fun _ => ov_load rfl Try.underlying2 rfl rfl (by show World.cell? w22 _ = _; first | exact hO5.cellI 0 rfl j (by omega) (by omega))) ?_
      refine rq_v rfl rfl rfl (fun _ => ov_move rfl rfl) ?_
      refine rq_v rfl rfl rfl (fun _ => ov_move rfl rfl) ?_
      refine rq_v rfl rfl rfl (fun _ => ov_index1 rfl Try.underlying22 (by kernel_rfl) rfl rfl ⟨by omega, by omega⟩ rfl) ?_
      refine rq_v rfl rfl rfl (fun _ => ov_load rfl Try.underlying2 rfl rfl (by show World.cell? w22 _ = _; first | exact hO5.cellI 0 rfl b (by omega) (by omega))) ?_
      refine rq_v rfl rfl rfl (fun _ => ov_gtr rfl rfl rfl) ?_
      refine rq_nil (fun n24 => ?_)
      have hO26 := hO5.drewN n24
      generalize World.drewN w22 n24 = w25 at hO26 ⊢
      first | refine run_cond_dec rfl (fun c1 => ?_) (fun c1 => ?_) | refine run_cond rfl (fun c1 => ?_) (fun c1 => ?_)
      ·refine run_region <| rl_v rfl rfl rfl (ov_move rfl rfl) <| rl_v rfl rfl rfl (ov_assign rfl rfl) <| rl_nil <| run_inBlock <| run_region <| rl_v rfl rfl rfl (ov_move rfl rfl) <| rl_v rfl rfl rfl (ov_add rfl rfl rfl (by omega)) ?_
       refine rl_v rfl rfl rfl (ov_assign rfl rfl) <| rl_nil ?_
       refine Run.use (ih23 (j + 1) (j) _ ?_ ?_) (And.intro (by exact slot_int rfl (by first | omega)) (And.intro (by exact slot_int rfl (by first | omega)) (And.intro rfl (And.intro rfl (And.intro rfl trivial)))))
       ·first | omega | (dsimp only; omega)
       ·exact ⟨by omega, hgr.up c1, hO26⟩
      ·refine run_skip <| run_inBlock <| run_region <| rl_v rfl rfl rfl (ov_move rfl rfl) <| rl_v rfl rfl rfl (ov_add rfl rfl rfl (by omega)) ?_
       refine rl_v rfl rfl rfl (ov_assign rfl rfl) <| rl_nil ?_
       refine Run.use (ih23 (j + 1) (b) _ ?_ ?_) (And.intro (by exact slot_int rfl (by first | omega)) (And.intro (by exact slot_int rfl (by first | omega)) (And.intro rfl (And.intro rfl (And.intro rfl trivial)))))
       ·first | omega | (dsimp only; omega)
       ·exact ⟨by omega, hgr.same c1, hO26⟩
     ·obtain rfl : j = n := by omega
      have hb1 := hgr.1
      obtain ⟨hpk2, hnb⟩ := hpk.step hr0 (by omega) (by omega) hgr
      have hst := hpk.st b hb1.1 hb1.2
      have hqb := hq0 b hb1.1 hb1.2
      refine run_exit rfl <| run_seq <| run_region <| rl_v rfl rfl rfl (ov_move rfl rfl) <| rl_v rfl rfl rfl (ov_move rfl rfl) <| rl_v rfl rfl rfl (ov_index1 rfl Try.underlying22 (by kernel_rfl) rfl rfl ⟨by omega, by omega⟩ rfl) ?_
      refine rl_v rfl rfl rfl (ov_load rfl Try.underlying2 rfl rfl (by exact hO5.cellI 1 rfl b hb1.1 hb1.2)) ?_
      refine rl_v rfl rfl rfl (ov_add rfl rfl rfl (by omega)) ?_
      refine rl_v rfl rfl rfl (ov_index1 rfl Try.underlying22 (by kernel_rfl) rfl rfl ⟨by omega, by omega⟩ rfl) ?_
      refine rl_ow rfl (ow_storeI rfl rfl (by kernel_rfl) hO5 1 rfl rfl ⟨by omega, by omega⟩ rfl) ?_
      rintro _ w27 ⟨rfl, hO28, hs29⟩
      refine rl_nil <| run_region <| rl_v rfl rfl rfl (ov_move rfl rfl) <| rl_v rfl rfl rfl (ov_move rfl rfl) <| rl_v rfl rfl rfl (ov_index1 rfl Try.underlying22 (by kernel_rfl) rfl rfl ⟨by omega, by omega⟩ rfl) ?_
      refine rl_ow rfl (ow_storeI rfl rfl (by kernel_rfl) hO28 0 rfl rfl ⟨by omega, by omega⟩ rfl) ?_
      rintro _ w30 ⟨rfl, hO31, hs32⟩
      refine rl_nil <| run_inBlock <| run_region <| rl_v rfl rfl rfl (ov_move rfl rfl) <| rl_v rfl rfl rfl (ov_sub rfl rfl rfl (by omega)) ?_
      refine rl_v rfl rfl rfl (ov_assign rfl rfl) <| rl_nil ?_
      refine Run.use (ih21 (k + 1) (upd out b (out b + 1)) (upd rest b (-1)) _ ?_ ?_) (And.intro (by exact slot_int rfl (by first | omega)) (And.intro rfl (And.intro rfl trivial)))
      ·first | omega | (dsimp only; omega)
      ·exact ⟨by omega, hpk2, hO31⟩
    ·obtain rfl : k = total - sm (qoF total n W) n := by omega
     refine run_exit rfl <| run_seq <| run_region <| rl_v rfl rfl rfl (ov_move rfl rfl) <| rl_v rfl rfl rfl (ov_assign rfl rfl) <| rl_nil <| run_ret Try.func124 (res1 Try.results124 rfl) ?_
     exact ⟨b29, out, rfl, Pk.shr (by omega) rfl hr0 hpk, hO4.tail⟩
end Go.Proofs.Ytfbbagnpdfafjaa
