import Derived.Test.YtbepolognfdkeaaGreatGbN
import Derived.Test.YtbepolognfdkeaaGreatGaT
import Derived.Test.YtbepolognfdkeaaGreatGaN
import Derived.Test.YtbepolognfdkeaaGreatGaV
set_option maxRecDepth 100000
namespace Go.Proofs.YtbepolognfdkeaaGreat
open Go.RowKit Go.Proofs Go.MapKept
theorem cloneLd_any (ao : Option Addr) (n c : Nat) (l : Lds) (w : World) (hn : n ≤ 100000) (h : SAt w.heap.size w ao 4 n (ldF l)) :
  Calls Tryz.prog 33 #[.slice ao n c] w fun e w' => ∃ v c', e = .returned v ∧ SRow v 58 4 n (ldF l) c' ∧ Own w.heap.size w w' [c'] := by
 obtain ⟨gb, go, hga, hrow⟩ := h.open (by decide)
 refine calls_of_run (F := [(0, _)]) Tryz.func33 rfl Tryz.ntmps33 rfl rfl ?_
 have hO0 := Own.init w
 refine run_seq <| run_region <| rl_v rfl rfl rfl (ov_assign rfl rfl) <| rl_nil <| run_seq <| run_seq <| run_region <| rl_v rfl rfl rfl (ov_move rfl rfl) <| rl_v rfl rfl rfl (ov_isnil rfl Tryz.underlying24 rfl) <| rl_nil ?_
 first | refine run_cond_dec rfl (fun g1 => ?_) (fun g1n => ?_) | refine run_cond rfl (fun g1 => ?_) (fun g1n => ?_)
 ·have hm0 : n = 0 := by
   rcases Nat.eq_zero_or_pos n with h | h
   ·exact h
   ·rw [hga h] at g1
    exact absurd g1 Bool.noConfusion
  subst hm0
  refine run_seq <| run_region <| rl_v rfl rfl rfl (ov_assign rfl rfl) <| rl_nil <| run_ret Tryz.func33 (res1 Tryz.results33 rfl) ?_
  exact ⟨_, none, rfl, SRow.nil _ _ _, hO0.nil_cons⟩
 ·refine run_skip <| run_seq <| run_region <| rl_ow rfl (ow_empty rfl rfl rfl Tryz.underlying24 info_58 hO0) ?_
  rintro _ w1 ⟨v5, c5, rfl, hO2, hR5, hs3⟩
  refine rl_v rfl rfl rfl (ov_move rfl rfl) <| rl_ow rfl (ow_appSR (G := fun _ => []) rfl rfl rfl Tryz.underlying24 info_58 rfl rfl hO2 0 (hR5 _) rfl rfl rfl (hO2.satU h) (fun _ _ _ => ⟨rfl, rfl⟩) ⟨by omega, by omega⟩) ?_
  rintro _ w4 ⟨v7, c7, rfl, hO5, hr7, hs6⟩
  refine rl_v rfl rfl rfl (ov_assign rfl rfl) <| rl_nil <| run_ret Tryz.func33 (res1 Tryz.results33 rfl) ?_
  exact ⟨v7, c7, rfl, by rw [Nat.zero_add] at hr7; exact hr7.congr fun i h0 h1 => by unfold joinF; rw [if_neg (by omega)]; exact congrArg (fun j => ldF l j) (by omega), hO5⟩
end Go.Proofs.YtbepolognfdkeaaGreat
set_option maxRecDepth 100000
namespace Go.Proofs.YtbepolognfdkeaaGreat
open Go.RowKit Go.Proofs Go.MapKept
theorem modsD {x m : Int} (hm : 0 < m ∧ m ≤ 1000000000000) : IntKind.i64.wrap (IntKind.u64.wrap x % m) = x % 18446744073709551616 % m ∧ 0 ≤ x % 18446744073709551616 % m ∧ x % 18446744073709551616 % m < m := by
 have h1 := Int.emod_nonneg (x % 18446744073709551616) (show m ≠ 0 by omega)
 have h2 := Int.emod_lt_of_pos (x % 18446744073709551616) hm.1
 exact ⟨by rw [IntKind.wrap_u64, IntKind.wrap_i64]; omega, h1, h2⟩
theorem u64_nnD (x : Int) : 0 ≤ IntKind.u64.wrap x := by rw [IntKind.wrap_u64]; exact Int.emod_nonneg _ (by decide)
namespace Lds
noncomputable instance (l : Lds) (i : Int) : Decidable (l.Val i) := Classical.propDecidable _
end Lds
end Go.Proofs.YtbepolognfdkeaaGreat
set_option maxRecDepth 100000
namespace Go.Proofs.YtbepolognfdkeaaGreat
open Go.RowKit Go.Proofs Go.MapKept Hal
def hrR (l : Lds) (i : Int) : Int := l.r i % 18446744073709551616 % 10
def hrD (l : Lds) (i : Int) : Int := hrR l i + 1 + l.d i % 18446744073709551616 % (10 - hrR l i)
def hrW (l : Lds) (i : Int) : Int := 1 + l.wo i % 18446744073709551616 % 50
def hrL (l : Lds) (n : Nat) : Lds := ⟨n, hrR l, hrD l, fun _ => 1, hrW l⟩
def hallV (m : Lds) (i j : Int) : Int := if m.r i ≤ j ∧ j < m.d i then m.wo i else 0
def hallL (m : Lds) : Hal := ⟨m.n, 10, hallV m⟩
theorem hr_rng (l : Lds) (i : Int) : (0 ≤ hrR l i ∧ hrR l i < 10) ∧ (hrR l i < hrD l i ∧ hrD l i ≤ 10) ∧ 1 ≤ hrW l i ∧ hrW l i ≤ 50 := by
 have h1 := Int.emod_nonneg (l.r i % 18446744073709551616) (show (10 : Int) ≠ 0 by decide)
 have h2 := Int.emod_lt_of_pos (l.r i % 18446744073709551616) (show (0 : Int) < 10 by decide)
 have a1 : 0 ≤ hrR l i := h1
 have a2 : hrR l i < 10 := h2
 have h3 := Int.emod_nonneg (l.d i % 18446744073709551616) (show 10 - hrR l i ≠ 0 by omega)
 have h4 := Int.emod_lt_of_pos (l.d i % 18446744073709551616) (show 0 < 10 - hrR l i by omega)
 have h5 := Int.emod_nonneg (l.wo i % 18446744073709551616) (show (50 : Int) ≠ 0 by decide)
 have h6 := Int.emod_lt_of_pos (l.wo i % 18446744073709551616) (show (0 : Int) < 50 by decide)
 refine ⟨⟨a1, a2⟩, ⟨?_, ?_⟩, ?_, ?_⟩
 ·unfold hrD; omega
 ·unfold hrD; omega
 ·unfold hrW; omega
 ·unfold hrW; omega
theorem hrL_valid (l : Lds) (n : Nat) : (hrL l n).Valid := fun i _ _ => by
 have h := hr_rng l i
 show 0 ≤ hrR l i ∧ hrR l i < hrD l i ∧ hrD l i ≤ 1000000 ∧ (1 : Int) ≤ 1 ∧ (1 : Int) ≤ hrD l i - hrR l i ∧ 0 ≤ hrW l i ∧ hrW l i ≤ 1000000
 omega
theorem hrL_short (l : Lds) (n : Nat) : (hrL l n).Short := fun _ _ _ => rfl
theorem hours_law {m : Lds} (hV : m.Valid) (hd : ∀ i : Int, 0 ≤ i → i < m.n → m.d i ≤ 10) {Z : Int → Int} (hZ : SrtW m Z) {p a : Int → Int} (hp : ∀ j : Int, 0 ≤ j → j < 10 → 0 ≤ p j) (hB : (hallL m).Bal p a) :
  (hallL m).worth a = sm (fun i => ind (grd m 1 Z m.n i) * m.wo i) m.n := by
 classical
 have hrng : ∀ i : Int, 0 ≤ i → i < m.n → a i = -1 ∨ 0 ≤ a i ∧ a i < 10 := hB.rng
 have hr0 : ∀ i : Int, 0 ≤ i → i < m.n → 0 ≤ m.r i := fun i i0 i1 => (hV i i0 i1).1
 have h1 : (hallL m).worth a ≤ sm (fun i => ind (grd m 1 Z m.n i) * m.wo i) m.n := by
  have hF : CanM m 1 fun i => (0 ≤ i ∧ i < m.n) ∧ m.r i ≤ a i ∧ a i < m.d i := by
   refine ⟨a, fun i _ _ q => q.2, fun t => ?_⟩
   have h9 := sm_atmost (p := fun j => ((0 ≤ j ∧ j < (m.n : Int)) ∧ m.r j ≤ a j ∧ a j < m.d j) ∧ a j = t) (n := m.n) (by omega) fun i k i0 i1 k0 k1 q1 q2 => hB.inj i k i0 i1 k0 k1 (by have := hr0 i i0 i1; have := q1.1.2.1; omega) (q1.2.trans q2.2.symm)
   refine Int.le_trans (Int.le_of_eq (sm_congr fun j _ _ => ?_)) h9
   by_cases c : ((0 ≤ j ∧ j < (m.n : Int)) ∧ m.r j ≤ a j ∧ a j < m.d j) ∧ a j = t
   ·rw [ind_t c, if_pos c]
   ·rw [ind_f c, if_neg c]
  refine Int.le_trans (Int.le_of_eq ?_) (grd_best hV (by decide) hZ hF)
  refine sm_congr fun i i0 i1 => ?_
  show (if 0 ≤ a i then hallV m i (a i) else 0) = _
  have h0 := hr0 i i0 i1
  unfold hallV
  by_cases c : m.r i ≤ a i ∧ a i < m.d i
  ·rw [if_pos (by omega), if_pos c, ind_t ⟨⟨i0, i1⟩, c⟩, Int.one_mul]
  ·rw [ind_f fun q => c q.2, Int.zero_mul]
   split <;> first | rfl | (rw [if_neg c])
 have h2 : sm (fun i => ind (grd m 1 Z m.n i) * m.wo i) m.n ≤ (hallL m).worth a := by
  obtain ⟨o, ho, hc⟩ := grd_can (l := m) (k := 1) (Z := Z) (by decide) m.n
  have hle := hB.best (b := fun i => if grd m 1 Z m.n i then o i else -1) hp (fun i i0 i1 => by
   by_cases c : grd m 1 Z m.n i
   ·simp only [if_pos c]
    have h3 := ho i i0 i1 c
    have h4 := hr0 i i0 i1
    have h5 := hd i i0 i1
    exact .inr (show 0 ≤ o i ∧ o i < 10 by omega)
   ·simp only [if_neg c]; exact .inl trivial) (fun i k i0 i1 k0 k1 hi e => by
   have i1' : i < (m.n : Int) := i1
   have k1' : k < (m.n : Int) := k1
   by_cases c : grd m 1 Z m.n i
   ·by_cases d : grd m 1 Z m.n k
    ·simp only [if_pos c, if_pos d] at e
     refine Classical.byContradiction fun hne => ?_
     have h3 := hc (o i)
     unfold cntE at h3
     have h4 : sm (fun x => (if x = i then (1 : Int) else 0) + if x = k then 1 else 0) m.n ≤ sm (fun j => ind (grd m 1 Z m.n j ∧ o j = o i)) m.n := sm_le fun x _ _ => by
      have h5 := ind_rng (grd m 1 Z m.n x ∧ o x = o i)
      by_cases e1 : x = i
      ·rw [if_pos e1, if_neg (by omega), e1, ind_t ⟨c, rfl⟩]; decide
      ·by_cases e2 : x = k
       ·rw [if_neg e1, if_pos e2, e2, ind_t ⟨d, e.symm⟩]; decide
       ·rw [if_neg e1, if_neg e2]; omega
     rw [sm_add, sm_one1 (f := fun x => if x = i then (1 : Int) else 0) i0 i1' fun j _ _ hne => if_neg hne, sm_one1 (f := fun x => if x = k then (1 : Int) else 0) k0 k1' fun j _ _ hne => if_neg hne, if_pos rfl, if_pos rfl] at h4
     omega
    ·simp only [if_pos c, if_neg d] at e hi
     omega
   ·simp only [if_neg c] at hi
    omega)
  refine Int.le_trans (Int.le_of_eq ?_) hle
  refine sm_congr fun i i0 i1 => ?_
  show _ = (if 0 ≤ (if grd m 1 Z m.n i then o i else -1) then hallV m i (if grd m 1 Z m.n i then o i else -1) else 0)
  by_cases c : grd m 1 Z m.n i
  ·have h3 := ho i i0 i1 c
   have h4 := hr0 i i0 i1
   rw [ind_t c, Int.one_mul, if_pos c, if_pos (by omega)]
   unfold hallV
   rw [if_pos h3]
  ·rw [ind_f c, Int.zero_mul, if_neg c, if_neg (by omega)]
 omega
theorem hours_fit {m : Lds} (hV : m.Valid) (hs : m.Short) {Z : Int → Int} {bn : Nat} {Y : Int → Int} (hn : m.n ≤ 256) (hb : bn ≤ m.n) (hR : Rise bn Y) (hm : ∀ i : Int, (∃ j : Int, (0 ≤ j ∧ j < bn) ∧ Y j = i) ↔ grd m 1 Z m.n i) (hr : ∀ j : Int, 0 ≤ j → j < bn → 0 ≤ Y j ∧ Y j < m.n) :
  (m.pick bn Y).chkK 1 = 0 ∧ (m.pick bn Y).Can 1 := by
 have hV2 : (m.pick bn Y).Valid := fun j j0 j1 => hV _ (hr j j0 j1).1 (hr j j0 j1).2
 have hs2 : (m.pick bn Y).Short := fun j j0 j1 => hs _ (hr j j0 j1).1 (hr j j0 j1).2
 refine ⟨Lds.chkK_ok (show bn ≤ 256 by omega) hV2 (by decide), (Lds.Short.can hs2 hV2 (by decide)).2 ((Lds.pick_can hr fun a b a0 ab b1 e => ?_).2 ((CanM.congr fun i _ _ => hm i).2 (grd_can (by decide) m.n)))⟩
 have := hR.inc a b a0 ab b1
 omega
end Go.Proofs.YtbepolognfdkeaaGreat
