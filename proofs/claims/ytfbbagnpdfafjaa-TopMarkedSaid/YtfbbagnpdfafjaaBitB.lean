import Derived.Test.YtfbbagnpdfafjaaBitA
set_option maxRecDepth 100000
namespace Go.Proofs.Ytfbbagnpdfafjaa
open Go.RowKit Go.Proofs
structure Dig (un d1 y1 y0 q r : Nat) : Prop where
 lo : (un * 4294967296 + d1) / (y1 * 4294967296 + y0) ≤ q
 eq : q * y1 + r = un
 small : r < 4294967296
structure DigH (un d1 y1 y0 : Nat) : Prop where
 u : un < y1 * 4294967296 + y0
 d : d1 < 4294967296
 y0 : y0 < 4294967296
 y1 : 2147483648 ≤ y1 ∧ y1 < 4294967296
theorem Dig.init {un d1 y1 y0 : Nat} (h : DigH un d1 y1 y0) : Dig un d1 y1 y0 (un / y1) (un - un / y1 * y1) := by
 have hy := h.y1
 have hd := h.d
 have h1 := Nat.div_mul_le_self (un * 4294967296 + d1) (y1 * 4294967296 + y0)
 have h2 := Nat.div_add_mod un y1
 have h3 := Nat.mod_lt un (show 0 < y1 by omega)
 have h4 : y1 * (un / y1) = un / y1 * y1 := Nat.mul_comm _ _
 refine ⟨?_, by omega, by omega⟩
 refine (Nat.le_div_iff_mul_le (by omega)).2 ?_
 generalize (un * 4294967296 + d1) / (y1 * 4294967296 + y0) = Q at *
 rw [Nat.mul_add, ← Nat.mul_assoc] at h1
 omega
theorem DigH.lt {un d1 y1 y0 : Nat} (h : DigH un d1 y1 y0) : (un * 4294967296 + d1) / (y1 * 4294967296 + y0) < 4294967296 := by
 have hy := h.y1
 have hd := h.d
 have hu := h.u
 refine (Nat.div_lt_iff_lt_mul (by omega)).2 ?_
 omega
theorem Dig.step {un d1 y1 y0 q r : Nat} (h : DigH un d1 y1 y0) (g : Dig un d1 y1 y0 q r) (c : 4294967296 ≤ q ∨ 4294967296 * r + d1 < q * y0) : 1 ≤ q ∧ (un * 4294967296 + d1) / (y1 * 4294967296 + y0) ≤ q - 1 ∧ (q - 1) * y1 + (r + y1) = un := by
 have hlt := h.lt
 have hy := h.y1
 obtain ⟨g1, g2, g3⟩ := g
 have hne : (un * 4294967296 + d1) / (y1 * 4294967296 + y0) ≠ q := fun e => by
  rcases c with c | c
  ·omega
  ·have h1 := Nat.div_mul_le_self (un * 4294967296 + d1) (y1 * 4294967296 + y0)
   rw [e, Nat.mul_add, ← Nat.mul_assoc] at h1
   omega
 have hq1 : 1 ≤ q := Nat.lt_of_le_of_lt (Nat.zero_le _) (Nat.lt_of_le_of_ne g1 hne)
 obtain ⟨p, rfl⟩ : ∃ p, q = p + 1 := ⟨q - 1, by omega⟩
 rw [Nat.add_mul] at g2
 refine ⟨hq1, Nat.le_sub_one_of_lt (Nat.lt_of_le_of_ne g1 hne), ?_⟩
 rw [Nat.add_sub_cancel]
 omega
theorem Dig.done {un d1 y1 y0 q r : Nat} (h : DigH un d1 y1 y0) (g : Dig un d1 y1 y0 q r) (c : ¬ (4294967296 ≤ q ∨ 4294967296 * r + d1 < q * y0)) : q = (un * 4294967296 + d1) / (y1 * 4294967296 + y0) := by
 have hy := h.y1
 obtain ⟨g1, g2, g3⟩ := g
 refine Nat.le_antisymm ((Nat.le_div_iff_mul_le (by omega)).2 ?_) g1
 rw [Nat.mul_add, ← Nat.mul_assoc]
 omega
theorem Dig.brk {un d1 y1 y0 q r : Nat} (h : DigH un d1 y1 y0) (g1 : (un * 4294967296 + d1) / (y1 * 4294967296 + y0) ≤ q) (g2 : q * y1 + r = un) (c : 4294967296 ≤ r) : q = (un * 4294967296 + d1) / (y1 * 4294967296 + y0) := by
 have hy := h.y1
 have hu := h.u
 have hy0 := h.y0
 have hq : q < 4294967296 := by
  refine Classical.byContradiction fun hx => ?_
  have := Nat.mul_le_mul_right y1 (show 4294967296 ≤ q by omega)
  omega
 refine Nat.le_antisymm ((Nat.le_div_iff_mul_le (by omega)).2 ?_) g1
 have h1 : q * y0 ≤ 4294967295 * 4294967295 := Nat.mul_le_mul (by omega) (by omega)
 rw [Nat.mul_add, ← Nat.mul_assoc]
 omega
theorem mulKK {a b : Nat} (ha : a < 4294967296) (hb : b < 4294967296) : a * b < 18446744073709551616 := by
 have : a * b ≤ 4294967295 * 4294967295 := Nat.mul_le_mul (by omega) (by omega)
 omega
theorem dig_rest {un d y : Nat} (hd : d < 4294967296) (hy : 0 < y ∧ y < 18446744073709551616) :
  IntKind.u64.wrap (IntKind.u64.wrap (IntKind.u64.wrap ((un : Int) * 4294967296) + (d : Int)) - IntKind.u64.wrap ((((un * 4294967296 + d) / y : Nat) : Int) * (y : Int))) = (((un * 4294967296 + d) % y : Nat) : Int) := by
 have h1 := Nat.div_add_mod (un * 4294967296 + d) y
 have h2 := Nat.mod_lt (un * 4294967296 + d) hy.1
 rw [← Int.natCast_mul, Nat.mul_comm _ y]
 simp only [IntKind.wrap_u64]
 generalize y * ((un * 4294967296 + d) / y) = p at *
 omega
theorem or_plus {a b s : Nat} (h : b < 2 ^ s) : a * 2 ^ s ||| b = a * 2 ^ s + b := by rw [Nat.mul_comm, Nat.two_pow_add_eq_or_of_lt h]
theorem up_split {hi lo s : Nat} (hs : s ≤ 64) : (hi * 18446744073709551616 + lo) * 2 ^ s = (hi * 2 ^ s + lo / 2 ^ (64 - s)) * 18446744073709551616 + lo * 2 ^ s % 18446744073709551616 := by
 have e : 2 ^ (64 - s) * 2 ^ s = 18446744073709551616 := by rw [← Nat.pow_add, show 64 - s + s = 64 by omega]
 have h1 : lo * 2 ^ s / 18446744073709551616 = lo / 2 ^ (64 - s) := by rw [← e, Nat.mul_div_mul_right _ _ (Nat.two_pow_pos s)]
 have h2 := Nat.div_add_mod (lo * 2 ^ s) 18446744073709551616
 rw [h1] at h2
 rw [Nat.add_mul, Nat.mul_right_comm]
 omega
theorem div_end {A y s Y U R1 d1 d0 K : Nat} (hY : Y = y * 2 ^ s) (hY0 : 0 < Y) (hA : A * 2 ^ s = (U * K + d1) * K + d0) (hR : R1 = (U * K + d1) % Y) :
  A / y = (U * K + d1) / Y * K + (R1 * K + d0) / Y ∧ A % y = (R1 * K + d0) % Y / 2 ^ s := by
 have hp : 0 < 2 ^ s := Nat.two_pow_pos s
 have h1 := Nat.div_add_mod (U * K + d1) Y
 have h2 := Nat.div_add_mod (R1 * K + d0) Y
 rw [← hR] at h1
 have h3 := Nat.mod_lt (R1 * K + d0) hY0
 have h4 : A * 2 ^ s = Y * ((U * K + d1) / Y * K + (R1 * K + d0) / Y) + (R1 * K + d0) % Y := by
  rw [Nat.mul_add, Nat.add_assoc, h2, ← Nat.mul_assoc, ← Nat.add_assoc, ← Nat.add_mul, h1, hA]
 have h5 : A * 2 ^ s / Y = (U * K + d1) / Y * K + (R1 * K + d0) / Y := by
  rw [h4, Nat.mul_add_div hY0, Nat.div_eq_of_lt h3, Nat.add_zero]
 have h6 : A * 2 ^ s % Y = (R1 * K + d0) % Y := by
  rw [h4, Nat.mul_add_mod, Nat.mod_eq_of_lt h3]
 constructor
 ·rw [← h5, hY, Nat.mul_div_mul_right _ _ hp]
 ·rw [← h6, hY, Nat.mul_mod_mul_right, Nat.mul_div_cancel _ hp]
theorem two_digits (U D d1 d0 : Nat) (h1 : d1 = D / 4294967296) (h0 : d0 = D % 4294967296) : U * 18446744073709551616 + D = (U * 4294967296 + d1) * 4294967296 + d0 := by omega
theorem div64_any (hi lo y : Nat) (w : World) (hy : hi < y) (hy2 : y < 18446744073709551616) (hlo : lo < 18446744073709551616) :
  Calls Try.prog 128 #[.int .u64 (hi : Int), .int .u64 (lo : Int), .int .u64 (y : Int)] w fun e w' => e = .returned (.tuple #[.int .u64 (((hi * 18446744073709551616 + lo) / y : Nat) : Int), .int .u64 (((hi * 18446744073709551616 + lo) % y : Nat) : Int)]) ∧ Below w.heap.size w w' := by
 have hid : (y : Int) ≠ 0 := by omega
 refine calls_of_run (F := [(0, _), (1, _), (2, _)]) Try.func128 rfl Try.ntmps128 rfl rfl ?_
 have hO0 := Own.init w
 refine run_seq <| run_region <| rl_v rfl rfl rfl (ov_assign rfl rfl) <| rl_v rfl rfl rfl (ov_assign rfl rfl) <| rl_nil <| run_seq <| run_seq <| run_region <| rl_v rfl rfl rfl (ov_move rfl rfl) <| rl_v rfl rfl rfl (ov_eql rfl rfl rfl) <| rl_nil ?_
 first | refine run_cond_dec rfl (fun c0 => ?_) (fun c0 => ?_) | refine run_cond rfl (fun c0 => ?_) (fun c0 => ?_)
 ·exfalso; omega
 ·refine run_skip <| run_seq <| run_seq <| run_region <| rl_v rfl rfl rfl (ov_move rfl rfl) <| rl_v rfl rfl rfl (ov_move rfl rfl) <| rl_v rfl rfl rfl (ov_leq rfl rfl rfl) <| rl_nil ?_
  first | refine run_cond_dec rfl (fun c1 => ?_) (fun c1 => ?_) | refine run_cond rfl (fun c1 => ?_) (fun c1 => ?_)
  ·exfalso; omega
  ·refine run_skip <| run_seq <| run_seq <| run_region <| rl_v rfl rfl rfl (ov_move rfl rfl) <| rl_v rfl rfl rfl (ov_eql rfl rfl rfl) <| rl_nil ?_
   first | refine run_cond_dec rfl (fun c2 => ?_) (fun c2 => ?_) | refine run_cond rfl (fun c2 => ?_) (fun c2 => ?_)
   ·obtain rfl : hi = 0 := by omega
    have e0 : 0 * 18446744073709551616 + lo = lo := by omega
    refine run_seq <| run_quiet mixed (by kernel_rfl) ?_
    refine rq_v rfl rfl rfl (fun _ => ov_move rfl rfl) ?_
    refine rq_v rfl rfl rfl (fun _ => ov_move rfl rfl) ?_
    refine rq_v rfl rfl rfl (fun _ => ov_quoN rfl rfl rfl hlo (by omega)) ?_
    refine rq_v rfl rfl rfl (fun _ => ov_move rfl rfl) ?_
    refine rq_v rfl rfl rfl (fun _ => ov_move rfl rfl) ?_
    refine rq_v rfl rfl rfl (fun _ => ov_remN rfl rfl rfl (by omega)) ?_
    refine rq_v rfl rfl rfl (fun _ => ov_assign rfl rfl) ?_
    refine rq_v rfl rfl rfl (fun _ => ov_assign rfl rfl) ?_
    refine rq_nil (fun n1 => ?_)
    have hO3 := hO0.drewN n1
    generalize World.drewN w n1 = w2 at hO3 ⊢
    refine run_ret Try.func128 (res2 Try.results128 rfl rfl) ?_
    exact ⟨by rw [e0], hO3.below⟩
   ·refine run_skip <| run_seq <| run_region <| rl_v rfl rfl rfl (ov_move rfl rfl) ?_
    refine rl_call callable_141 rfl rfl rfl rfl rfl rfl (lead_any y w (by omega) hy2) (fun e4 w5 hp6 => ?_)
    obtain ⟨s, rfl, hw, hs, hn1, hn2⟩ := hp6
    refine ⟨_, rfl, ?_⟩
    have hbw : Below w.heap.size w w5 := hw ▸ Below.refl _ _
    have hO7 := hO0.past hbw
    obtain ⟨Y, hY⟩ : ∃ Y, Y = y * 2 ^ s := ⟨_, rfl⟩
    have hp : 0 < 2 ^ s := Nat.two_pow_pos s
    rw [← hY] at hn1 hn2
    have hhs : hi * 2 ^ s < 18446744073709551616 := by
     have := Nat.mul_le_mul_right (2 ^ s) (Nat.le_of_lt hy)
     rw [← hY] at this
     omega
    have hls : lo / 2 ^ (64 - s) < 2 ^ s := by
     refine (Nat.div_lt_iff_lt_mul (Nat.two_pow_pos _)).2 ?_
     rw [← Nat.pow_add, show s + (64 - s) = 64 by omega]
     exact hlo
    have hls2 : lo / 2 ^ (64 - s) < 18446744073709551616 := Nat.lt_of_le_of_lt (Nat.div_le_self _ _) hlo
    have hsp := up_split (hi := hi) (lo := lo) (s := s) (by omega)
    obtain ⟨U, hU⟩ : ∃ U, U = hi * 2 ^ s + lo / 2 ^ (64 - s) := ⟨_, rfl⟩
    obtain ⟨D, hD⟩ : ∃ D, D = lo * 2 ^ s % 18446744073709551616 := ⟨_, rfl⟩
    have hDl : D < 18446744073709551616 := by rw [hD]; exact Nat.mod_lt _ (by omega)
    rw [← hU, ← hD] at hsp
    have hUY : U < Y := by
     have h1 : (hi * 18446744073709551616 + lo) * 2 ^ s < (y * 18446744073709551616) * 2 ^ s := Nat.mul_lt_mul_of_pos_right (by omega) hp
     rw [hsp, Nat.mul_right_comm, ← hY] at h1
     omega
    have hor : hi * 2 ^ s ||| lo / 2 ^ (64 - s) = U := by rw [hU]; exact or_plus hls
    have eY : ((y * 2 ^ s % 18446744073709551616 : Nat) : Int) = (Y : Int) := by rw [← hY, Nat.mod_eq_of_lt hn2]
    have eh : ((hi * 2 ^ s % 18446744073709551616 : Nat) : Int) = ((hi * 2 ^ s : Nat) : Int) := by rw [Nat.mod_eq_of_lt hhs]
    have eo : ((hi * 2 ^ s ||| lo / 2 ^ (64 - s) : Nat) : Int) = (U : Int) := by rw [hor]
    have eD : ((lo * 2 ^ s % 18446744073709551616 : Nat) : Int) = (D : Int) := by rw [hD]
    have e64 : IntKind.u64.wrap (64 - (s : Int)) = ((64 - s : Nat) : Int) := wSub (a := 64) (by omega) (by omega)
    have hY1 : Y / 4294967296 * 4294967296 + Y % 4294967296 = Y := by omega
    obtain ⟨y1, hy1⟩ : ∃ y1, y1 = Y / 4294967296 := ⟨_, rfl⟩
    obtain ⟨y0, hy0⟩ : ∃ y0, y0 = Y % 4294967296 := ⟨_, rfl⟩
    obtain ⟨d1, hd1⟩ : ∃ d1, d1 = D / 4294967296 := ⟨_, rfl⟩
    obtain ⟨d0, hd0⟩ : ∃ d0, d0 = D % 4294967296 := ⟨_, rfl⟩
    rw [← hy1, ← hy0] at hY1
    have H1 : DigH U d1 y1 y0 := ⟨by omega, by omega, by omega, by omega⟩
    have hR : (U * 4294967296 + d1) % Y < Y := Nat.mod_lt _ (by omega)
    have H0 : DigH ((U * 4294967296 + d1) % Y) d0 y1 y0 := ⟨by omega, by omega, by omega, by omega⟩
    have hr1 := dig_rest (un := U) (d := d1) (y := Y) (by omega) (by omega)
    have hr0 := dig_rest (un := (U * 4294967296 + d1) % Y) (d := d0) (y := Y) (by omega) (by omega)
    have hUD : U * 18446744073709551616 + D = (U * 4294967296 + d1) * 4294967296 + d0 := two_digits U D d1 d0 hd1 hd0
    have hA := hsp.trans hUD
    have ey1 : ((Y / 4294967296 : Nat) : Int) = (y1 : Int) := by rw [hy1]
    have ey0 : ((Y % 4294967296 : Nat) : Int) = (y0 : Int) := by rw [hy0]
    have ed1 : ((D / 4294967296 : Nat) : Int) = (d1 : Int) := by rw [hd1]
    have ed0 : ((D % 4294967296 : Nat) : Int) = (d0 : Int) := by rw [hd0]
    obtain ⟨R1, hR1⟩ : ∃ R1, R1 = (U * 4294967296 + d1) % Y := ⟨_, rfl⟩
    have hend := div_end (A := hi * 18446744073709551616 + lo) (y := y) (s := s) (Y := Y) (U := U) (R1 := R1) (K := 4294967296) (d1 := d1) (d0 := d0) hY (by omega) hA hR1
    rw [← hR1] at hR H0 hr1 hr0
    have i1 := Dig.init H1
    have i0 := Dig.init H0
    have q1lt := H1.lt
    have q0lt := H0.lt
    rw [hY1] at q1lt q0lt
    refine rl_v rfl rfl rfl (nv (ov_conv rfl Try.underlying3 Try.underlying42 rfl) (wN s (by omega))) ?_
    refine rl_v rfl rfl rfl (ov_assign rfl rfl) <| rl_nil <| run_seq <| run_region <| rl_v rfl rfl rfl (ov_move rfl rfl) <| rl_v rfl rfl rfl (ov_move rfl rfl) <| rl_v rfl rfl rfl (nv (ov_shlU rfl rfl rfl (by omega)) eY) ?_
    refine rl_v rfl rfl rfl (ov_assign rfl rfl) <| rl_nil <| run_seq <| run_region <| rl_v rfl rfl rfl (ov_move rfl rfl) <| rl_v rfl rfl rfl (nv (ov_shr32N rfl rfl rfl) ey1) <| rl_v rfl rfl rfl (ov_assign rfl rfl) <| rl_nil <| run_seq <| run_region <| rl_v rfl rfl rfl (ov_move rfl rfl) <| rl_v rfl rfl rfl (nv (ov_andN rfl rfl rfl hn2) ey0) <| rl_v rfl rfl rfl (ov_assign rfl rfl) <| rl_nil <| run_seq <| run_region <| rl_v rfl rfl rfl (ov_move rfl rfl) <| rl_v rfl rfl rfl (ov_move rfl rfl) <| rl_v rfl rfl rfl (nv (ov_shlU rfl rfl rfl (by omega)) eh) ?_
    refine rl_v rfl rfl rfl (ov_move rfl rfl) <| rl_v rfl rfl rfl (ov_move rfl rfl) <| rl_v rfl rfl rfl (nv (ov_subw rfl rfl rfl) e64) <| rl_v rfl rfl rfl (ov_shrU rfl rfl rfl (by omega)) ?_
    refine rl_v rfl rfl rfl (nv (ov_orU rfl rfl rfl hhs hls2) eo) <| rl_v rfl rfl rfl (ov_assign rfl rfl) <| rl_nil <| run_seq <| run_region <| rl_v rfl rfl rfl (ov_move rfl rfl) <| rl_v rfl rfl rfl (ov_move rfl rfl) <| rl_v rfl rfl rfl (nv (ov_shlU rfl rfl rfl (by omega)) eD) ?_
    refine rl_v rfl rfl rfl (ov_assign rfl rfl) <| rl_nil <| run_seq <| run_region <| rl_v rfl rfl rfl (ov_move rfl rfl) <| rl_v rfl rfl rfl (nv (ov_shr32N rfl rfl rfl) ed1) <| rl_v rfl rfl rfl (ov_assign rfl rfl) <| rl_nil <| run_seq <| run_region <| rl_v rfl rfl rfl (ov_move rfl rfl) <| rl_v rfl rfl rfl (nv (ov_andN rfl rfl rfl hDl) ed0) <| rl_v rfl rfl rfl (ov_assign rfl rfl) <| rl_nil <| run_seq <| run_region <| rl_v rfl rfl rfl (ov_move rfl rfl) <| rl_v rfl rfl rfl (ov_move rfl rfl) <| rl_v rfl rfl rfl (ov_quoN rfl rfl rfl (by omega) (by omega)) ?_
    refine rl_v rfl rfl rfl (ov_assign rfl rfl) <| rl_nil <| run_seq <| run_region <| rl_v rfl rfl rfl (ov_move rfl rfl) <| rl_v rfl rfl rfl (ov_move rfl rfl) <| rl_v rfl rfl rfl (ov_move rfl rfl) <| rl_v rfl rfl rfl (nv (ov_mulw rfl rfl rfl) (wMul (Nat.lt_of_le_of_lt (Nat.div_mul_le_self U y1) (by omega)))) ?_
    refine rl_v rfl rfl rfl (nv (ov_subw rfl rfl rfl) (wSub (Nat.div_mul_le_self U y1) (by omega))) ?_
    refine rl_v rfl rfl rfl (ov_assign rfl rfl) <| rl_nil <| run_seq <| Run.keep [2, 8, 9, 10, 11, 13, 14, 15, 16] (F' := [(2, _), (8, _), (9, _), (10, _), (11, _), (13, _), (14, _), (15, _), (16, _)]) rfl <| run_join1 (fun (q : Nat) => [(15, .int .u64 (q : Int))]) [2, 8, 9, 10, 11, 13, 14] (fun (q : Nat) (w8 : World) => q = (U * 4294967296 + d1) / Y ∧ Own w.heap.size w w8 []) (fun hk9 => ?_) ?_
    ·refine run_block <| Run.keep [2, 8, 9, 10, 11, 13, 14, 15, 16] (F' := [(2, _), (8, _), (9, _), (10, _), (11, _), (13, _), (14, _), (15, _), (16, _)]) rfl <| run_loop2 (fun (q : Nat) (r : Nat) => [(15, .int .u64 (q : Int)), (16, .int .u64 (r : Int))]) [2, 8, 9, 10, 11, 13, 14] (fun (q : Nat) (r : Nat) (w10 : World) => Dig U d1 y1 y0 q r ∧ Own w.heap.size w w10 []) (fun (q : Nat) (r : Nat) => q) (U / y1) (U - U / y1 * y1) ?_ (And.intro (by exact slot_int rfl (by first | omega)) (And.intro (by exact slot_int rfl (by first | omega)) (And.intro rfl (And.intro rfl (And.intro rfl (And.intro rfl (And.intro rfl (And.intro rfl (And.intro rfl trivial))))))))) ?_
     ·exact ⟨i1, hO7⟩
     intro q r w10 hIw10 ih11
     obtain ⟨hg, hO2⟩ := hIw10
     show Run _ _ _ _ [(15, _), (16, _), (2, _), (8, _), (9, _), (10, _), (11, _), (13, _), (14, _)] _ _
     have hgs := hg.small
     have hgy := H1.y0
     have hgd := H1.d
     refine run_seq <| run_seq <| run_region_join 78 (.bool (decide (4294967296 ≤ q ∨ 4294967296 * r + d1 < q * y0))) [2, 8, 9, 10, 11, 13, 14, 15, 16] (fun hk12 => ?_) ?_
     ·refine rl_v rfl rfl rfl (ov_move rfl rfl) <| rl_v rfl rfl rfl (ov_geq rfl rfl rfl) <| rl_v rfl rfl rfl (ov_move rfl rfl) ?_
      first | refine rl_split_dec 69 rfl (fun g1 => ?_) (fun g1 => ?_) | refine rl_split 69 rfl (fun g1 => ?_) (fun g1 => ?_)
      ·refine rl_gskip rfl rfl rfl rfl rfl rfl <| rl_gskip rfl rfl rfl rfl rfl rfl <| rl_gskip rfl rfl rfl rfl rfl rfl <| rl_gskip rfl rfl rfl rfl rfl rfl <| rl_gskip rfl rfl rfl rfl rfl rfl <| rl_gskip rfl rfl rfl rfl rfl rfl <| rl_gskip rfl rfl rfl rfl rfl rfl <| rl_gskip rfl rfl rfl rfl rfl rfl <| rl_v rfl rfl rfl (ov_pick_t rfl rfl rfl) ?_
       refine rl_nil (hk12 _ (jbt rfl (by omega)) (And.intro rfl (And.intro rfl (And.intro rfl (And.intro rfl (And.intro rfl (And.intro rfl (And.intro rfl (And.intro rfl (And.intro rfl trivial))))))))))
      ·refine rl_gv rfl rfl rfl rfl rfl (ov_move rfl rfl) <| rl_gv rfl rfl rfl rfl rfl (ov_move rfl rfl) <| rl_gv rfl rfl rfl rfl rfl (nv (ov_mulw rfl rfl rfl) (wMul (mulKK (by omega) (by omega)))) ?_
       refine rl_gv rfl rfl rfl rfl rfl (ov_move rfl rfl) <| rl_gv rfl rfl rfl rfl rfl (nv (ov_mulw rfl rfl rfl) (wMul (a := 4294967296) (by omega))) ?_
       refine rl_gv rfl rfl rfl rfl rfl (ov_move rfl rfl) <| rl_gv rfl rfl rfl rfl rfl (nv (ov_addw rfl rfl rfl) (wAdd (by omega))) ?_
       refine rl_gv rfl rfl rfl rfl rfl (ov_gtr rfl rfl rfl) <| rl_v rfl rfl rfl (ov_pick_f rfl rfl rfl) ?_
       refine rl_nil (hk12 _ (jbd rfl (by omega)) (And.intro rfl (And.intro rfl (And.intro rfl (And.intro rfl (And.intro rfl (And.intro rfl (And.intro rfl (And.intro rfl (And.intro rfl trivial))))))))))
     ·show Run _ _ _ _ [(78, _), (2, _), (8, _), (9, _), (10, _), (11, _), (13, _), (14, _), (15, _), (16, _)] _ _
      first | refine run_cond_dec rfl (fun c3 => ?_) (fun c3 => ?_) | refine run_cond rfl (fun c3 => ?_) (fun c3 => ?_)
      ·have hst := Dig.step H1 hg c3
       have hqU : q ≤ U := by
        have h1 := hg.eq
        have h2 := Nat.le_mul_of_pos_right q (show 0 < y1 by omega)
        omega
       refine run_skip <| run_block <| run_seq <| run_region <| rl_v rfl rfl rfl (ov_move rfl rfl) <| rl_v rfl rfl rfl (nv (ov_subw rfl rfl rfl) (wSub (b := 1) hst.1 (by omega))) ?_
       refine rl_v rfl rfl rfl (ov_assign rfl rfl) <| rl_nil <| run_seq <| run_region <| rl_v rfl rfl rfl (ov_move rfl rfl) <| rl_v rfl rfl rfl (ov_move rfl rfl) <| rl_v rfl rfl rfl (nv (ov_addw rfl rfl rfl) (wAdd (by omega))) ?_
       refine rl_v rfl rfl rfl (ov_assign rfl rfl) <| rl_nil <| run_seq <| run_region <| rl_v rfl rfl rfl (ov_move rfl rfl) <| rl_v rfl rfl rfl (ov_geq rfl rfl rfl) <| rl_nil ?_
       first | refine run_cond_dec rfl (fun c4 => ?_) (fun c4 => ?_) | refine run_cond rfl (fun c4 => ?_) (fun c4 => ?_)
       ·refine run_exit rfl ?_
        refine Run.use (hk9 (q - 1) _ ?_) (And.intro (by exact slot_int rfl (by first | omega)) (And.intro rfl (And.intro rfl (And.intro rfl (And.intro rfl (And.intro rfl (And.intro rfl (And.intro rfl trivial))))))))
        exact ⟨(Dig.brk H1 hst.2.1 hst.2.2 (by omega)).trans (by rw [hY1]), hO2⟩
       ·refine run_skip <| run_inBlock ?_
        refine Run.use (ih11 (q - 1) (r + y1) _ ?_ ?_) (And.intro (by exact slot_int rfl (by first | omega)) (And.intro (by exact slot_int rfl (by first | omega)) (And.intro rfl (And.intro rfl (And.intro rfl (And.intro rfl (And.intro rfl (And.intro rfl (And.intro rfl trivial)))))))))
        ·omega
        ·exact ⟨⟨hst.2.1, hst.2.2, by omega⟩, hO2⟩
      ·refine run_exit rfl ?_
       refine Run.use (hk9 (q) _ ?_) (And.intro (by exact slot_int rfl (by first | omega)) (And.intro rfl (And.intro rfl (And.intro rfl (And.intro rfl (And.intro rfl (And.intro rfl (And.intro rfl trivial))))))))
       exact ⟨(Dig.done H1 hg c3).trans (by rw [hY1]), hO2⟩
    ·intro q w8 hJw8
     obtain ⟨hq, hO1⟩ := hJw8
     show Run _ _ _ _ [(15, _), (2, _), (8, _), (9, _), (10, _), (11, _), (13, _), (14, _)] _ _
     subst hq
     refine run_seq <| run_region <| rl_v rfl rfl rfl (ov_move rfl rfl) <| rl_v rfl rfl rfl (ov_mulw rfl rfl rfl) <| rl_v rfl rfl rfl (ov_move rfl rfl) <| rl_v rfl rfl rfl (ov_addw rfl rfl rfl) <| rl_v rfl rfl rfl (ov_move rfl rfl) <| rl_v rfl rfl rfl (ov_move rfl rfl) <| rl_v rfl rfl rfl (ov_mulw rfl rfl rfl) <| rl_v rfl rfl rfl (nv (ov_subw rfl rfl rfl) hr1) <| rl_v rfl rfl rfl (ov_assign rfl rfl) <| rl_nil <| run_seq <| run_region <| rl_v rfl rfl rfl (ov_move rfl rfl) <| rl_v rfl rfl rfl (ov_move rfl rfl) <| rl_v rfl rfl rfl (ov_quoN rfl rfl rfl (by omega) (by omega)) ?_
     refine rl_v rfl rfl rfl (ov_assign rfl rfl) <| rl_nil <| run_seq <| run_region <| rl_v rfl rfl rfl (ov_move rfl rfl) <| rl_v rfl rfl rfl (ov_move rfl rfl) <| rl_v rfl rfl rfl (ov_move rfl rfl) <| rl_v rfl rfl rfl (nv (ov_mulw rfl rfl rfl) (wMul (Nat.lt_of_le_of_lt (Nat.div_mul_le_self R1 y1) (by omega)))) ?_
     refine rl_v rfl rfl rfl (nv (ov_subw rfl rfl rfl) (wSub (Nat.div_mul_le_self R1 y1) (by omega))) ?_
     refine rl_v rfl rfl rfl (ov_assign rfl rfl) <| rl_nil <| run_seq <| Run.keep [2, 8, 9, 10, 14, 15, 16, 17, 18] (F' := [(2, _), (8, _), (9, _), (10, _), (14, _), (15, _), (16, _), (17, _), (18, _)]) rfl <| run_join1 (fun (q : Nat) => [(18, .int .u64 (q : Int))]) [2, 8, 14, 15, 17] (fun (q : Nat) (w14 : World) => q = (R1 * 4294967296 + d0) / Y ∧ Own w.heap.size w w14 []) (fun hk15 => ?_) ?_
     ·refine run_block <| Run.keep [2, 8, 9, 10, 14, 15, 16, 17, 18] (F' := [(2, _), (8, _), (9, _), (10, _), (14, _), (15, _), (16, _), (17, _), (18, _)]) rfl <| run_loop2 (fun (q : Nat) (r : Nat) => [(18, .int .u64 (q : Int)), (16, .int .u64 (r : Int))]) [2, 8, 9, 10, 14, 15, 17] (fun (q : Nat) (r : Nat) (w16 : World) => Dig R1 d0 y1 y0 q r ∧ Own w.heap.size w w16 []) (fun (q : Nat) (r : Nat) => q) (R1 / y1) (R1 - R1 / y1 * y1) ?_ (And.intro (by exact slot_int rfl (by first | omega)) (And.intro (by exact slot_int rfl (by first | omega)) (And.intro rfl (And.intro rfl (And.intro rfl (And.intro rfl (And.intro rfl (And.intro rfl (And.intro rfl trivial))))))))) ?_
      ·exact ⟨i0, hO1⟩
      intro q r w16 hIw16 ih17
      obtain ⟨hg, hO2⟩ := hIw16
      show Run _ _ _ _ [(18, _), (16, _), (2, _), (8, _), (9, _), (10, _), (14, _), (15, _), (17, _)] _ _
      have hgs := hg.small
      have hgy := H1.y0
      have hgd := H0.d
      refine run_seq <| run_seq <| run_region_join 113 (.bool (decide (4294967296 ≤ q ∨ 4294967296 * r + d0 < q * y0))) [2, 8, 9, 10, 14, 15, 16, 17, 18] (fun hk18 => ?_) ?_
      ·refine rl_v rfl rfl rfl (ov_move rfl rfl) <| rl_v rfl rfl rfl (ov_geq rfl rfl rfl) <| rl_v rfl rfl rfl (ov_move rfl rfl) ?_
       first | refine rl_split_dec 104 rfl (fun g1 => ?_) (fun g1 => ?_) | refine rl_split 104 rfl (fun g1 => ?_) (fun g1 => ?_)
       ·refine rl_gskip rfl rfl rfl rfl rfl rfl <| rl_gskip rfl rfl rfl rfl rfl rfl <| rl_gskip rfl rfl rfl rfl rfl rfl <| rl_gskip rfl rfl rfl rfl rfl rfl <| rl_gskip rfl rfl rfl rfl rfl rfl <| rl_gskip rfl rfl rfl rfl rfl rfl <| rl_gskip rfl rfl rfl rfl rfl rfl <| rl_gskip rfl rfl rfl rfl rfl rfl <| rl_v rfl rfl rfl (ov_pick_t rfl rfl rfl) ?_
        refine rl_nil (hk18 _ (jbt rfl (by omega)) (And.intro rfl (And.intro rfl (And.intro rfl (And.intro rfl (And.intro rfl (And.intro rfl (And.intro rfl (And.intro rfl (And.intro rfl trivial))))))))))
       ·refine rl_gv rfl rfl rfl rfl rfl (ov_move rfl rfl) <| rl_gv rfl rfl rfl rfl rfl (ov_move rfl rfl) <| rl_gv rfl rfl rfl rfl rfl (nv (ov_mulw rfl rfl rfl) (wMul (mulKK (by omega) (by omega)))) ?_
        refine rl_gv rfl rfl rfl rfl rfl (ov_move rfl rfl) <| rl_gv rfl rfl rfl rfl rfl (nv (ov_mulw rfl rfl rfl) (wMul (a := 4294967296) (by omega))) ?_
        refine rl_gv rfl rfl rfl rfl rfl (ov_move rfl rfl) <| rl_gv rfl rfl rfl rfl rfl (nv (ov_addw rfl rfl rfl) (wAdd (by omega))) ?_
        refine rl_gv rfl rfl rfl rfl rfl (ov_gtr rfl rfl rfl) <| rl_v rfl rfl rfl (ov_pick_f rfl rfl rfl) ?_
        refine rl_nil (hk18 _ (jbd rfl (by omega)) (And.intro rfl (And.intro rfl (And.intro rfl (And.intro rfl (And.intro rfl (And.intro rfl (And.intro rfl (And.intro rfl (And.intro rfl trivial))))))))))
      ·show Run _ _ _ _ [(113, _), (2, _), (8, _), (9, _), (10, _), (14, _), (15, _), (16, _), (17, _), (18, _)] _ _
       first | refine run_cond_dec rfl (fun c3 => ?_) (fun c3 => ?_) | refine run_cond rfl (fun c3 => ?_) (fun c3 => ?_)
       ·have hst := Dig.step H0 hg c3
        have hqU : q ≤ R1 := by
         have h1 := hg.eq
         have h2 := Nat.le_mul_of_pos_right q (show 0 < y1 by omega)
         omega
        refine run_skip <| run_block <| run_seq <| run_region <| rl_v rfl rfl rfl (ov_move rfl rfl) <| rl_v rfl rfl rfl (nv (ov_subw rfl rfl rfl) (wSub (b := 1) hst.1 (by omega))) ?_
        refine rl_v rfl rfl rfl (ov_assign rfl rfl) <| rl_nil <| run_seq <| run_region <| rl_v rfl rfl rfl (ov_move rfl rfl) <| rl_v rfl rfl rfl (ov_move rfl rfl) <| rl_v rfl rfl rfl (nv (ov_addw rfl rfl rfl) (wAdd (by omega))) ?_
        refine rl_v rfl rfl rfl (ov_assign rfl rfl) <| rl_nil <| run_seq <| run_region <| rl_v rfl rfl rfl (ov_move rfl rfl) <| rl_v rfl rfl rfl (ov_geq rfl rfl rfl) <| rl_nil ?_
        first | refine run_cond_dec rfl (fun c4 => ?_) (fun c4 => ?_) | refine run_cond rfl (fun c4 => ?_) (fun c4 => ?_)
        ·refine run_exit rfl ?_
         refine Run.use (hk15 (q - 1) _ ?_) (And.intro (by exact slot_int rfl (by first | omega)) (And.intro rfl (And.intro rfl (And.intro rfl (And.intro rfl (And.intro rfl trivial))))))
         exact ⟨(Dig.brk H0 hst.2.1 hst.2.2 (by omega)).trans (by rw [hY1]), hO2⟩
        ·refine run_skip <| run_inBlock ?_
         refine Run.use (ih17 (q - 1) (r + y1) _ ?_ ?_) (And.intro (by exact slot_int rfl (by first | omega)) (And.intro (by exact slot_int rfl (by first | omega)) (And.intro rfl (And.intro rfl (And.intro rfl (And.intro rfl (And.intro rfl (And.intro rfl (And.intro rfl trivial)))))))))
         ·omega
         ·exact ⟨⟨hst.2.1, hst.2.2, by omega⟩, hO2⟩
       ·refine run_exit rfl ?_
        refine Run.use (hk15 (q) _ ?_) (And.intro (by exact slot_int rfl (by first | omega)) (And.intro rfl (And.intro rfl (And.intro rfl (And.intro rfl (And.intro rfl trivial))))))
        exact ⟨(Dig.done H0 hg c3).trans (by rw [hY1]), hO2⟩
     ·intro q w14 hJw14
      obtain ⟨hq, hO1⟩ := hJw14
      show Run _ _ _ _ [(18, _), (2, _), (8, _), (14, _), (15, _), (17, _)] _ _
      subst hq
      refine run_seq <| run_region <| rl_v rfl rfl rfl (ov_move rfl rfl) <| rl_v rfl rfl rfl (nv (ov_mulw rfl rfl rfl) (wMul (b := 4294967296) (by omega))) ?_
      refine rl_v rfl rfl rfl (ov_move rfl rfl) <| rl_v rfl rfl rfl (nv (ov_addw rfl rfl rfl) (wAdd (by omega))) ?_
      refine rl_v rfl rfl rfl (ov_move rfl rfl) <| rl_v rfl rfl rfl (ov_mulw rfl rfl rfl) <| rl_v rfl rfl rfl (ov_move rfl rfl) <| rl_v rfl rfl rfl (ov_addw rfl rfl rfl) <| rl_v rfl rfl rfl (ov_move rfl rfl) <| rl_v rfl rfl rfl (ov_move rfl rfl) <| rl_v rfl rfl rfl (ov_mulw rfl rfl rfl) <| rl_v rfl rfl rfl (nv (ov_subw rfl rfl rfl) hr0) <| rl_v rfl rfl rfl (ov_move rfl rfl) <| rl_v rfl rfl rfl (ov_shrU rfl rfl rfl (by omega)) ?_
      refine rl_v rfl rfl rfl (ov_assign rfl rfl) <| rl_v rfl rfl rfl (ov_assign rfl rfl) <| rl_nil <| run_ret Try.func128 (res2 Try.results128 rfl rfl) ?_
      exact ⟨by rw [hend.1, hend.2], hO1.below⟩
end Go.Proofs.Ytfbbagnpdfafjaa
