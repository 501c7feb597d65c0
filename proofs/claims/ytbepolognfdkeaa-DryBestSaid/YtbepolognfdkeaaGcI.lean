import Derived.Test.YtbepolognfdkeaaInv
import Derived.Test.YtbepolognfdkeaaGcH
set_option maxRecDepth 100000
namespace Go.Proofs.Ytbepolognfdkeaa
open Go.RowKit Go.Proofs
section
variable {P : Program} {N : Nat} {o : Oper} {F : Fr} {w : World} {T U : TypeId} {x y : Operand}
theorem ov_shl1 {k : IntKind} {s : Nat} (ho : o.op = .binOp .shl T x y U) (hx : Fr.ev F x = some (.int .i64 1)) (hy : Fr.ev F y = some (.int k (s : Int))) (hs : s ≤ 40) : OpV P N o F w (.int .i64 ((2 ^ s : Nat) : Int)) := by
 refine ov_bin ho hx hy ?_
 have h1 : (2 : Nat) ^ s ≤ 2 ^ 40 := Nat.pow_le_pow_right (by decide) hs
 have h2 : (2 : Nat) ^ 40 = 1099511627776 := by decide
 have h3 : ((2 : Int)) ^ s = ((2 ^ s : Nat) : Int) := by rw [Int.natCast_pow]; rfl
 have h4 : IntKind.i64.wrap ((2 ^ s : Nat) : Int) = ((2 ^ s : Nat) : Int) := by
  obtain ⟨q, hq⟩ : ∃ q : Nat, q = 2 ^ s := ⟨_, rfl⟩
  rw [← hq] at h1 ⊢
  exact IntWalk.i64_in _ (by omega)
 have h5 : ¬ (s : Int) < 0 := by omega
 have h6 : min s 64 = s := by omega
 simp only [binOp, Op.shift, IntKind.bits, if_neg h5, Int.toNat_natCast, h6, Int.one_mul, h3, h4]
 rfl
theorem ov_shrI {k : IntKind} {a s : Nat} (ho : o.op = .binOp .shr T x y U) (hx : Fr.ev F x = some (.int .i64 (a : Int))) (hy : Fr.ev F y = some (.int k (s : Int))) (hs : s ≤ 40) : OpV P N o F w (.int .i64 ((a / 2 ^ s : Nat) : Int)) := by
 refine ov_bin ho hx hy ?_
 have h3 : ((2 : Int)) ^ s = ((2 ^ s : Nat) : Int) := by rw [Int.natCast_pow]; rfl
 have h5 : ¬ (s : Int) < 0 := by omega
 have h6 : min s 64 = s := by omega
 have h7 : (a : Int).fdiv ((2 ^ s : Nat) : Int) = ((a / 2 ^ s : Nat) : Int) := by rw [Int.fdiv_eq_ediv_of_nonneg _ (Int.natCast_nonneg _), Int.natCast_ediv]
 simp only [binOp, Op.shift, IntKind.bits, if_neg h5, Int.toNat_natCast, h6, h3, h7]
 rfl
end
def bitI (t : Nat) (i : Int) : Prop := t / 2 ^ i.toNat % 2 = 1
theorem set_ex (I : Int → Prop) : ∀ n : Nat, ∃ t : Nat, t < 2 ^ n ∧ ∀ x : Int, 0 ≤ x → x < n → (bitI t x ↔ I x)
 | 0 => ⟨0, by decide, fun x x0 x1 => by omega⟩
 | n + 1 => by
  obtain ⟨t, ht, hb⟩ := set_ex I n
  have hlow : ∀ (b : Nat) (x : Int), 0 ≤ x → x < n → (bitI (t + b * 2 ^ n) x ↔ bitI t x) := fun b x x0 x1 => by
   unfold bitI
   have e : 2 ^ n = 2 ^ (n - x.toNat - 1) * 2 * 2 ^ x.toNat := by
    rw [← Nat.pow_succ, ← Nat.pow_add]
    congr 1
    omega
   have e2 : t + b * 2 ^ n = t + 2 ^ x.toNat * (b * 2 ^ (n - x.toNat - 1) * 2) := by
    rw [e, Nat.mul_comm (2 ^ x.toNat)]
    simp only [Nat.mul_assoc]
   rw [e2, Nat.add_mul_div_left _ _ (Nat.two_pow_pos _), Nat.add_mul_mod_self_right]
  by_cases c : I n
  ·refine ⟨t + 1 * 2 ^ n, by rw [Nat.pow_succ]; omega, fun x x0 x1 => ?_⟩
   by_cases d : x = n
   ·rw [d]
    refine ⟨fun _ => c, fun _ => ?_⟩
    unfold bitI
    rw [show ((n : Int)).toNat = n by omega, Nat.add_mul_div_right _ _ (Nat.two_pow_pos _), Nat.div_eq_of_lt ht]
   ·rw [hlow 1 x x0 (by omega)]; exact hb x x0 (by omega)
  ·refine ⟨t, by rw [Nat.pow_succ]; omega, fun x x0 x1 => ?_⟩
   by_cases d : x = n
   ·rw [d]
    refine ⟨fun h => ?_, fun h => absurd h c⟩
    unfold bitI at h
    rw [show ((n : Int)).toNat = n by omega, Nat.div_eq_of_lt ht] at h
    exact absurd h (by decide)
   ·exact hb x x0 (by omega)
end Go.Proofs.Ytbepolognfdkeaa
set_option maxRecDepth 100000
namespace Go.Proofs.Ytbepolognfdkeaa
open Go.RowKit Go.Proofs Go.MapKept
noncomputable def bI7 (t : Nat) (j : Int) : Bool := @decide (bitI t j) (Classical.propDecidable _)
theorem bI7_iff {t : Nat} {j : Int} : bI7 t j = true ↔ bitI t j := by unfold bI7; exact @decide_eq_true_iff _ (Classical.propDecidable _)
theorem bI7_val (t i : Nat) : bI7 t i = decide ((((t / 2 ^ i : Nat) : Int)) % 2 = 1) := by
 rw [Bool.eq_iff_iff, bI7_iff, decide_eq_true_iff]
 unfold bitI
 rw [Int.toNat_natCast]
 omega
noncomputable def wS7 (l : Lds) (t : Nat) : Int := sm (fun i => ind (bitI t i) * l.wo i) l.n
set_option maxHeartbeats 8000000 in
theorem tried7_any (la : Option Addr) (lc : Nat) (l : Lds) (k : Int) (w : World) (hn : l.n ≤ 7) (hV : l.Valid) (hk : 1 ≤ k ∧ k ≤ 1000) (hl : SAt w.heap.size w la 4 l.n (ldF l)) :
  Calls Try.prog 33 #[.slice la l.n lc, iv k] w fun e w' => ∃ b : Int, e = .returned (iv b) ∧ (∀ t : Nat, t < 2 ^ l.n → CanM l k (fun i => bitI t i) → wS7 l t ≤ b) ∧ (b = 0 ∨ ∃ t : Nat, CanM l k (fun i => bitI t i) ∧ b = wS7 l t) ∧ Own w.heap.size w w' [] := by
 obtain ⟨lb, lo, hla, hlr⟩ := hl.open (by decide)
 obtain ⟨N2, hN2⟩ : ∃ N2, N2 = 2 ^ l.n := ⟨_, rfl⟩
 have hN3 : N2 ≤ 128 := by rw [hN2]; exact Nat.pow_le_pow_right (by decide) hn
 rw [← hN2]
 refine calls_of_run (F := [(0, _), (1, _)]) Try.func33 rfl Try.ntmps33 rfl rfl ?_
 have hO0 := Own.init w
 refine run_seq <| run_region <| rl_v rfl rfl rfl (ov_assign rfl rfl) <| rl_nil <| run_seq <| run_region <| rl_v rfl rfl rfl (ov_assign rfl rfl) <| rl_nil <| run_seq <| run_seq <| run_region <| rl_v rfl rfl rfl (ov_assign rfl rfl) <| rl_nil <| run_block <| Run.keep [0, 1, 5, 6] (F' := [(0, _), (1, _), (5, _), (6, _)]) rfl <| run_loop2 (fun (t : Nat) (b : Int) => [(6, .int .i64 (t : Int)), (5, .int .i64 b)]) [0, 1] (fun (t : Nat) (b : Int) (w1 : World) => t ≤ N2 ∧ 0 ≤ b ∧ b ≤ 7000000 ∧ (∀ u : Nat, u < t → CanM l k (fun i => bitI u i) → wS7 l u ≤ b) ∧ (b = 0 ∨ ∃ u : Nat, CanM l k (fun i => bitI u i) ∧ b = wS7 l u) ∧ Own w.heap.size w w1 []) (fun (t : Nat) (b : Int) => N2 - t) (0) (0) ?_ (And.intro (by exact slot_int rfl (by first | omega)) (And.intro (by exact slot_int rfl (by first | omega)) (And.intro rfl (And.intro rfl trivial)))) ?_
 ·exact ⟨Nat.zero_le _, Int.le_refl _, by decide, fun u hu => absurd hu (Nat.not_lt_zero _), .inl rfl, hO0⟩
 intro t b w1 hIw1 ih2
 obtain ⟨ht, hb0, hb1, hall, hex, hO1⟩ := hIw1
 show Run _ _ _ _ [(6, _), (5, _), (0, _), (1, _)] _ _
 refine run_seq <| run_seq <| run_region <| rl_v rfl rfl rfl (ov_move rfl rfl) <| rl_v rfl rfl rfl (ov_move rfl rfl) <| rl_v rfl rfl rfl (ov_len rfl Try.underlying22 rfl) <| rl_v rfl rfl rfl (ov_convTo (((IntKind.wrap_u64 _).trans (Int.emod_eq_of_lt (by omega) (by omega)))) rfl Try.underlying3 Try.underlying33 rfl) ?_
 refine rl_v rfl rfl rfl (ov_shl1 (s := l.n) rfl rfl rfl (by omega)) ?_
 refine rl_v rfl rfl rfl (ov_lss rfl rfl rfl) <| rl_nil ?_
 first | refine run_cond_dec rfl (fun c1 => ?_) (fun c1 => ?_) | refine run_cond rfl (fun c1 => ?_) (fun c1 => ?_)
 ·rw [← hN2] at c1
  refine run_skip <| run_seq <| run_block <| run_seq <| run_region <| rl_v rfl rfl rfl (ov_move rfl rfl) <| rl_v rfl rfl rfl (ov_len rfl Try.underlying22 rfl) ?_
  refine rl_make (l.n) rfl rfl rfl rfl Try.underlying78 info_4 rfl hO1 rfl rfl (by rfl) (by rfl) ⟨by omega, by omega⟩ (fun sb w3 hO4 hs5 => ?_)
  refine rl_v rfl rfl rfl (ov_assign rfl rfl) <| rl_nil <| run_seq <| run_region <| rl_v rfl rfl rfl (ov_assign rfl rfl) <| rl_nil <| run_seq <| run_seq <| run_region <| rl_v rfl rfl rfl (ov_assign rfl rfl) <| rl_nil <| run_block <| Run.keep [0, 1, 5, 6, 7, 8, 9] (F' := [(0, _), (1, _), (5, _), (6, _), (7, _), (8, _), (9, _)]) rfl <| run_loop2 (fun (i : Nat) (m : Int) => [(9, .int .i64 (i : Int)), (8, .int .i64 m)]) [0, 1, 5, 6, 7] (fun (i : Nat) (m : Int) (w6 : World) => i ≤ l.n ∧ m = sm (fun i => ind (bitI t i) * l.wo i) i ∧ Own w.heap.size w w6 [some (vch sb 4 l.n (fun j => .bool (if j < (i : Int) then bI7 t j else false)))]) (fun (i : Nat) (m : Int) => l.n - i) (0) (0) ?_ (And.intro (by exact slot_int rfl (by first | omega)) (And.intro (by exact slot_int rfl (by first | omega)) (And.intro rfl (And.intro rfl (And.intro rfl (And.intro rfl (And.intro rfl trivial))))))) ?_
  ·exact ⟨Nat.zero_le _, rfl, hO4.congrI 0 rfl fun v v0 v1 => by rw [if_neg (by omega)]⟩
  intro i m w6 hIw6 ih7
  obtain ⟨hi, hm, hO2⟩ := hIw6
  show Run _ _ _ _ [(9, _), (8, _), (0, _), (1, _), (5, _), (6, _), (7, _)] _ _
  have hm0 : 0 ≤ m := by
   rw [hm]
   exact sm_nonneg fun a a0 a1 => Int.mul_nonneg (ind_rng _).1 (by have := hV a a0 (by omega); unfold Lds.Val at this; omega)
  have hm1 : m ≤ i * 1000000 := by
   rw [hm]
   refine sm_bound _ (by omega) fun a a0 a1 => ?_
   have := hV a a0 (by omega)
   unfold Lds.Val at this
   rcases ind_01z (bitI t a) with e | e <;> (rw [e]; omega)
  refine run_seq <| run_seq <| run_region <| rl_v rfl rfl rfl (ov_move rfl rfl) <| rl_v rfl rfl rfl (ov_move rfl rfl) <| rl_v rfl rfl rfl (ov_len rfl Try.underlying22 rfl) <| rl_v rfl rfl rfl (ov_lss rfl rfl rfl) <| rl_nil ?_
  first | refine run_cond_dec rfl (fun c2 => ?_) (fun c2 => ?_) | refine run_cond rfl (fun c2 => ?_) (fun c2 => ?_)
  ·have hvi := hV i (by omega) c2
   unfold Lds.Val at hvi
   refine run_skip <| run_seq <| run_block <| run_seq <| run_region <| rl_v rfl rfl rfl (ov_move rfl rfl) <| rl_v rfl rfl rfl (ov_move rfl rfl) <| rl_v rfl rfl rfl (ov_move rfl rfl) <| rl_v rfl rfl rfl (ov_move rfl rfl) <| rl_v rfl rfl rfl (ov_convTo (((IntKind.wrap_u64 _).trans (Int.emod_eq_of_lt (by omega) (by omega)))) rfl Try.underlying3 Try.underlying33 rfl) ?_
   refine rl_v rfl rfl rfl (ov_shrI (a := t) (s := i) rfl rfl rfl (by omega)) ?_
   refine rl_v rfl rfl rfl (ov_rem rfl rfl rfl (Int.natCast_nonneg _) (by omega)) ?_
   refine rl_v rfl rfl rfl (ov_eql rfl rfl rfl) <| rl_v rfl rfl rfl (ov_index1 rfl Try.underlying78 (by kernel_rfl) rfl rfl ⟨by omega, by omega⟩ rfl) ?_
   refine rl_ow rfl (ow_store rfl rfl (by kernel_rfl) hO2 0 rfl rfl ⟨by omega, by omega⟩ rfl rfl) ?_
   rintro _ w8 ⟨rfl, hO9, hs10⟩
   have hOs := hO9.congrI 0 rfl (G' := fun j => .bool (if j < ((i + 1 : Nat) : Int) then bI7 t j else false)) (fun v v0 v1 => by
    by_cases e : v = (i : Int)
    ·rw [e, upd_same, if_pos (by omega), bI7_val]
    ·rw [upd_ne _ _ e]
     by_cases e2 : v < i
     ·rw [if_pos e2, if_pos (by omega)]
     ·rw [if_neg e2, if_neg (by omega)])
   refine rl_nil <| run_seq <| run_region <| rl_v rfl rfl rfl (ov_move rfl rfl) <| rl_v rfl rfl rfl (ov_move rfl rfl) <| rl_v rfl rfl rfl (ov_index1 rfl Try.underlying78 (by kernel_rfl) rfl rfl ⟨by omega, by omega⟩ (by rfl)) ?_
   refine rl_v rfl rfl rfl (ov_load rfl Try.underlying4 rfl rfl (by exact (hOs.cellI 0 rfl i (by omega) c2).trans (congrArg (fun z => some (Value.bool z)) (if_pos (by omega))))) ?_
   refine rl_nil ?_
   first | refine run_cond_dec rfl (fun c3 => ?_) (fun c3 => ?_) | refine run_cond rfl (fun c3 => ?_) (fun c3 => ?_)
   ·have hbt : bitI t i := c3
    have hms : m + l.wo i = sm (fun i => ind (bitI t i) * l.wo i) ((i + 1 : Nat) : Int) := by
     rw [show ((i + 1 : Nat) : Int) = (i : Int) + 1 by omega, sm_succ _ (by omega), ← hm, ind_t hbt, Int.one_mul]
    refine run_region <| rl_v rfl rfl rfl (ov_move rfl rfl) <| rl_v rfl rfl rfl (ov_move rfl rfl) <| rl_v rfl rfl rfl (ov_move rfl rfl) <| rl_v rfl rfl rfl (ov_index rfl Try.underlying22 (by kernel_rfl) (s := 4) rfl rfl ⟨by omega, by omega⟩ (by exact hla (by omega))) ?_
    refine rl_v rfl rfl rfl (ov_fieldS rfl Try.underlying72 rfl (fo := 3) rfl (by kernel_rfl) rfl) ?_
    refine rl_v rfl rfl rfl (ov_load rfl Try.underlying3 rfl rfl (by exact hlr _ hOs.below i (by omega) c2 3 (by decide))) ?_
    refine rl_v rfl rfl rfl (ov_add rfl rfl rfl (by omega)) ?_
    refine rl_v rfl rfl rfl (ov_assign rfl rfl) <| rl_nil <| run_inBlock <| run_region <| rl_v rfl rfl rfl (ov_move rfl rfl) <| rl_v rfl rfl rfl (ov_add rfl rfl rfl (by omega)) ?_
    refine rl_v rfl rfl rfl (ov_assign rfl rfl) <| rl_nil ?_
    refine Run.use (ih7 (i + 1) (m + l.wo i) _ ?_ ?_) (And.intro (by exact slot_int rfl (by first | omega)) (And.intro (by exact slot_int rfl (by first | omega)) (And.intro rfl (And.intro rfl (And.intro rfl (And.intro rfl (And.intro rfl trivial)))))))
    ·first | omega | (dsimp only; omega)
    ·exact ⟨by omega, hms, hOs⟩
   ·have hbt : ¬ bitI t i := c3
    have hms : m = sm (fun i => ind (bitI t i) * l.wo i) ((i + 1 : Nat) : Int) := by
     rw [show ((i + 1 : Nat) : Int) = (i : Int) + 1 by omega, sm_succ _ (by omega), ← hm, ind_f hbt, Int.zero_mul]; omega
    refine run_skip <| run_inBlock <| run_region <| rl_v rfl rfl rfl (ov_move rfl rfl) <| rl_v rfl rfl rfl (ov_add rfl rfl rfl (by omega)) ?_
    refine rl_v rfl rfl rfl (ov_assign rfl rfl) <| rl_nil ?_
    refine Run.use (ih7 (i + 1) (m) _ ?_ ?_) (And.intro (by exact slot_int rfl (by first | omega)) (And.intro (by exact slot_int rfl (by first | omega)) (And.intro rfl (And.intro rfl (And.intro rfl (And.intro rfl (And.intro rfl trivial)))))))
    ·first | omega | (dsimp only; omega)
    ·exact ⟨by omega, hms, hOs⟩
  ·have hin : i = l.n := by omega
   have hmw : m = wS7 l t := by rw [hm, hin]; rfl
   have hOx := hO2.congrI 0 rfl (G' := fun j => .bool (bI7 t j)) (fun v v0 v1 => by rw [if_pos (by omega)])
   refine run_exit rfl <| run_seq <| run_seq <| run_region <| rl_v rfl rfl rfl (ov_move rfl rfl) <| rl_v rfl rfl rfl (ov_move rfl rfl) <| rl_v rfl rfl rfl (ov_leq rfl rfl rfl) <| rl_nil ?_
   first | refine run_cond_dec rfl (fun c4 => ?_) (fun c4 => ?_) | refine run_cond rfl (fun c4 => ?_) (fun c4 => ?_)
   ·have hall2 : ∀ u : Nat, u < t + 1 → CanM l k (fun i => bitI u i) → wS7 l u ≤ b := fun u hu hc => by
     by_cases e : u = t
     ·rw [e, ← hmw]; exact c4
     ·exact hall u (by omega) hc
    refine run_exit rfl <| run_region <| rl_v rfl rfl rfl (ov_move rfl rfl) <| rl_v rfl rfl rfl (ov_add rfl rfl rfl (by omega)) ?_
    refine rl_v rfl rfl rfl (ov_assign rfl rfl) <| rl_nil ?_
    refine Run.use (ih2 (t + 1) (b) _ ?_ ?_) (And.intro (by exact slot_int rfl (by first | omega)) (And.intro (by exact slot_int rfl (by first | omega)) (And.intro rfl (And.intro rfl trivial))))
    ·first | omega | (dsimp only; omega)
    ·exact ⟨by omega, hb0, hb1, hall2, hex, hOx.tail⟩
   ·refine run_skip <| run_seq <| run_region <| rl_v rfl rfl rfl (ov_move rfl rfl) <| rl_v rfl rfl rfl (ov_move rfl rfl) <| rl_v rfl rfl rfl (ov_move rfl rfl) ?_
    refine rl_call callable_36 rfl rfl rfl rfl rfl rfl (refEarly_any la lc l k (some ⟨sb, 0, none⟩) l.n (fun j => bI7 t j) _ (by omega) hV hk (hOx.satU hl) (hOx.reads 0 rfl l.n (Nat.le_refl _))) (fun e11 w12 hp13 => ?_)
    obtain ⟨ra, rn, rc, out, cr, rfl, _, _, _, hOf⟩ := hp13
    refine ⟨_, rfl, ?_⟩
    have hO14 := hOx.join hOf
    have hcm : CanM l k (fun i => bI7 t i = true) ↔ CanM l k fun i => bitI t i := CanM.congr fun i _ _ => bI7_iff
    refine rl_v rfl rfl rfl (ov_move rfl rfl) <| rl_v rfl rfl rfl (ov_extract rfl rfl (by rfl)) ?_
    refine rl_v rfl rfl rfl (ov_extract rfl rfl (by rfl)) ?_
    refine rl_v rfl rfl rfl (ov_assign rfl rfl) <| rl_v rfl rfl rfl (ov_assign rfl rfl) <| rl_nil <| run_seq <| run_region <| rl_v rfl rfl rfl (ov_move rfl rfl) <| rl_nil ?_
    first | refine run_cond_dec rfl (fun c5 => ?_) (fun c5 => ?_) | refine run_cond rfl (fun c5 => ?_) (fun c5 => ?_)
    ·have hyes : CanM l k fun i => bitI t i := hcm.1 c5
     have hall2 : ∀ u : Nat, u < t + 1 → CanM l k (fun i => bitI u i) → wS7 l u ≤ m := fun u hu hc => by
      by_cases e : u = t
      ·rw [e, ← hmw]; exact Int.le_refl _
      ·have := hall u (by omega) hc; omega
     refine run_region <| rl_v rfl rfl rfl (ov_move rfl rfl) <| rl_v rfl rfl rfl (ov_assign rfl rfl) <| rl_nil <| run_inBlock <| run_region <| rl_v rfl rfl rfl (ov_move rfl rfl) <| rl_v rfl rfl rfl (ov_add rfl rfl rfl (by omega)) ?_
     refine rl_v rfl rfl rfl (ov_assign rfl rfl) <| rl_nil ?_
     refine Run.use (ih2 (t + 1) (m) _ ?_ ?_) (And.intro (by exact slot_int rfl (by first | omega)) (And.intro (by exact slot_int rfl (by first | omega)) (And.intro rfl (And.intro rfl trivial))))
     ·first | omega | (dsimp only; omega)
     ·exact ⟨by omega, hm0, by omega, hall2, .inr ⟨t, hyes, hmw⟩, hO14.tail.tail⟩
    ·have hno : ¬ CanM l k fun i => bitI t i := fun h => c5 (hcm.2 h)
     have hall2 : ∀ u : Nat, u < t + 1 → CanM l k (fun i => bitI u i) → wS7 l u ≤ b := fun u hu hc => by
      by_cases e : u = t
      ·rw [e] at hc; exact absurd hc hno
      ·exact hall u (by omega) hc
     refine run_skip <| run_inBlock <| run_region <| rl_v rfl rfl rfl (ov_move rfl rfl) <| rl_v rfl rfl rfl (ov_add rfl rfl rfl (by omega)) ?_
     refine rl_v rfl rfl rfl (ov_assign rfl rfl) <| rl_nil ?_
     refine Run.use (ih2 (t + 1) (b) _ ?_ ?_) (And.intro (by exact slot_int rfl (by first | omega)) (And.intro (by exact slot_int rfl (by first | omega)) (And.intro rfl (And.intro rfl trivial))))
     ·first | omega | (dsimp only; omega)
     ·exact ⟨by omega, hb0, hb1, hall2, hex, hO14.tail.tail⟩
 ·rw [← hN2] at c1
  refine run_exit rfl <| run_seq <| run_region <| rl_v rfl rfl rfl (ov_move rfl rfl) <| rl_v rfl rfl rfl (ov_assign rfl rfl) <| rl_nil <| run_ret Try.func33 (res1 Try.results33 rfl) ?_
  exact ⟨b, rfl, fun u hu => hall u (by omega), hex, hO1⟩
end Go.Proofs.Ytbepolognfdkeaa
