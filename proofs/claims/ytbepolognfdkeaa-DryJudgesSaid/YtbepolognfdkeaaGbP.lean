import Derived.Test.YtbepolognfdkeaaGbO
set_option maxRecDepth 100000
namespace Go.Proofs.Ytbepolognfdkeaa
open Go.RowKit Go.Proofs Go.MapKept
theorem modsD {x m : Int} (hm : 0 < m ∧ m ≤ 1000000000000) : IntKind.i64.wrap (IntKind.u64.wrap x % m) = x % 18446744073709551616 % m ∧ 0 ≤ x % 18446744073709551616 % m ∧ x % 18446744073709551616 % m < m := by
 have h1 := Int.emod_nonneg (x % 18446744073709551616) (show m ≠ 0 by omega)
 have h2 := Int.emod_lt_of_pos (x % 18446744073709551616) hm.1
 exact ⟨by rw [IntKind.wrap_u64, IntKind.wrap_i64]; omega, h1, h2⟩
theorem u64_nnD (x : Int) : 0 ≤ IntKind.u64.wrap x := by rw [IntKind.wrap_u64]; exact Int.emod_nonneg _ (by decide)
namespace Lds
def cut (l : Lds) (n : Nat) : Lds := { l with n := n }
def tR (l : Lds) (i : Int) : Int := l.r i % 18446744073709551616 % 12
def tD (l : Lds) (i : Int) : Int := l.tR i + 1 + l.d i % 18446744073709551616 % 8
def tL (l : Lds) (i : Int) : Int := 1 + l.len i % 18446744073709551616 % (l.tD i - l.tR i)
def tW (l : Lds) (i : Int) : Int := l.wo i % 18446744073709551616 % 20
noncomputable instance (l : Lds) (i : Int) : Decidable (l.Val i) := Classical.propDecidable _
noncomputable def tame (l : Lds) (s : Bool) : Lds where
 n := l.n
 r i := if l.Val i then l.r i else l.tR i
 d i := if l.Val i then l.d i else l.tD i
 len i := if s then 1 else if l.Val i then l.len i else l.tL i
 wo i := if l.Val i then l.wo i else l.tW i
noncomputable def tameTo (l : Lds) (s : Bool) (j : Int) : Lds where
 n := l.n
 r i := if i < j then (l.tame s).r i else l.r i
 d i := if i < j then (l.tame s).d i else l.d i
 len i := if i < j then (l.tame s).len i else l.len i
 wo i := if i < j then (l.tame s).wo i else l.wo i
theorem tRng (l : Lds) (i : Int) : (0 ≤ l.tR i ∧ l.tR i < 12) ∧ (l.tR i < l.tD i ∧ l.tD i ≤ l.tR i + 8) ∧ (1 ≤ l.tL i ∧ l.tL i ≤ l.tD i - l.tR i) ∧ 0 ≤ l.tW i ∧ l.tW i < 20 := by
 have a1 := Int.emod_nonneg (l.r i % 18446744073709551616) (show (12 : Int) ≠ 0 by decide)
 have a2 := Int.emod_lt_of_pos (l.r i % 18446744073709551616) (show (0 : Int) < 12 by decide)
 have b1 := Int.emod_nonneg (l.d i % 18446744073709551616) (show (8 : Int) ≠ 0 by decide)
 have b2 := Int.emod_lt_of_pos (l.d i % 18446744073709551616) (show (0 : Int) < 8 by decide)
 have d1 := Int.emod_nonneg (l.wo i % 18446744073709551616) (show (20 : Int) ≠ 0 by decide)
 have d2 := Int.emod_lt_of_pos (l.wo i % 18446744073709551616) (show (0 : Int) < 20 by decide)
 have e1 : l.tR i < l.tD i := by unfold tD tR; omega
 have c1 := Int.emod_nonneg (l.len i % 18446744073709551616) (show l.tD i - l.tR i ≠ 0 by omega)
 have c2 := Int.emod_lt_of_pos (l.len i % 18446744073709551616) (show 0 < l.tD i - l.tR i by omega)
 refine ⟨⟨a1, a2⟩, ⟨e1, ?_⟩, ⟨?_, ?_⟩, d1, d2⟩
 ·unfold tD; omega
 ·unfold tL; omega
 ·unfold tL; omega
theorem tame_valid (l : Lds) (s : Bool) : (l.tame s).Valid := fun i _ _ => by
 have h := l.tRng i
 unfold Val tame
 dsimp only
 by_cases c : l.Val i
 ·rw [if_pos c, if_pos c, if_pos c, if_pos c]
  unfold Val at c
  cases s
  ·exact c
  ·exact ⟨c.1, c.2.1, c.2.2.1, Int.le_refl 1, by show (1 : Int) ≤ _; omega, c.2.2.2.2.2⟩
 ·rw [if_neg c, if_neg c, if_neg c, if_neg c]
  cases s
  ·show _ ∧ _ ∧ _ ∧ 1 ≤ l.tL i ∧ l.tL i ≤ _ ∧ _; omega
  ·show _ ∧ _ ∧ _ ∧ (1 : Int) ≤ 1 ∧ (1 : Int) ≤ _ ∧ _; omega
end Lds
theorem tame_step (l : Lds) (s : Bool) (j : Nat) (n : Nat) : ∀ i : Int, 0 ≤ i → i < n → upd (ldF (l.tameTo s j)) j (ldF (l.tame s) j) i = ldF (l.tameTo s ((j + 1 : Nat) : Int)) i := fun i i0 i1 => by
 unfold ldF Lds.tameTo
 dsimp only
 by_cases c : i = j
 ·rw [c, upd_same, if_pos (by omega), if_pos (by omega), if_pos (by omega), if_pos (by omega)]
 ·rw [upd_ne _ _ c]
  by_cases c2 : i < j
  ·rw [if_pos c2, if_pos c2, if_pos c2, if_pos c2, if_pos (by omega), if_pos (by omega), if_pos (by omega), if_pos (by omega)]
  ·rw [if_neg c2, if_neg c2, if_neg c2, if_neg c2, if_neg (by omega), if_neg (by omega), if_neg (by omega), if_neg (by omega)]
theorem SAt.take7 {B : Nat} {w : World} {ao : Option Addr} {s n m : Nat} {G : Int → List Value} (h : SAt B w ao s n G) (hm : m ≤ n) : SAt B w ao s m G := RAt.take h (Nat.mul_le_mul_right s hm)
theorem SAt.one7 {B : Nat} {w : World} {ao : Option Addr} {us : List Value} {l : Lds} {j : Int} (h : SAt B w ao 4 1 (fun i => [us].getD i.toNat [])) (hu : us = ldF l j := by rfl) : SAt B w ao 4 1 (ldF ⟨1, fun _ => l.r j, fun _ => l.d j, fun _ => l.len j, fun _ => l.wo j⟩) := by
 have e : ∀ k, k < 1 * 4 → (([us].getD ((k / 4 : Nat) : Int).toNat []).getD (k % 4) undef) = ((ldF ⟨1, fun _ => l.r j, fun _ => l.d j, fun _ => l.len j, fun _ => l.wo j⟩ ((k / 4 : Nat) : Int)).getD (k % 4) undef) := fun k hk => by
  rw [show k / 4 = 0 by omega, hu]; rfl
 obtain ⟨b, off, h1, h2, h3⟩ := h
 exact ⟨b, off, h1, h2, fun k hk => (h3 k hk).trans (congrArg some (e k hk))⟩
theorem some7_any (la : Option Addr) (lc : Nat) (l : Lds) (most : Nat) (w : World) (hc : l.n ≤ lc) (hm : most ≤ 1000) (hl : SAt w.heap.size w la 4 l.n (ldF l)) :
  Calls Try.prog 38 #[.slice la l.n lc, iv most] w fun e w' => ∃ v c, e = .returned v ∧ SRow v 72 4 (min l.n most) (ldF l) c ∧ Own w.heap.size w w' [c] := by
 refine calls_of_run (F := [(0, _), (1, _)]) Try.func38 rfl Try.ntmps38 rfl rfl ?_
 have hO0 := Own.init w
 have hOn := hO0.nil_cons
 refine run_seq <| run_region <| rl_v rfl rfl rfl (ov_assign rfl rfl) <| rl_nil <| run_seq <| run_region <| rl_v rfl rfl rfl (ov_assign rfl rfl) <| rl_nil <| run_seq <| run_region <| rl_v rfl rfl rfl (ov_move rfl rfl) <| rl_v rfl rfl rfl (ov_move rfl rfl) <| rl_v rfl rfl rfl (ov_move rfl rfl) <| rl_v rfl rfl rfl (ov_len rfl Try.underlying22 rfl) <| rl_v rfl rfl rfl (ov_move rfl rfl) <| rl_v rfl rfl rfl (ov_min rfl rfl rfl) <| rl_v rfl rfl rfl (ov_sliceH (min l.n most) (s := 4) rfl Try.underlying22 (by kernel_rfl) rfl rfl (by omega) (by omega)) ?_
 refine rl_ow rfl (ow_appSR rfl rfl rfl Try.underlying22 info_72 rfl rfl hOn 0 (SRow.nil _ _ (ldF l)) rfl rfl rfl ((hOn.satU hl).take7 (Nat.min_le_left _ _)) (fun _ _ _ => ⟨rfl, rfl⟩) ⟨by omega, by omega⟩) ?_
 rintro _ w1 ⟨v13, c13, rfl, hO2, hr13, hs3⟩
 refine rl_v rfl rfl rfl (ov_assign rfl rfl) <| rl_nil <| run_ret Try.func38 (res1 Try.results38 rfl) ?_
 exact ⟨v13, c13, rfl, by rw [Nat.zero_add] at hr13; exact hr13.congr fun i h0 h1 => by unfold joinF; rw [if_neg (by omega)]; exact congrArg (fun j => ldF l j) (by omega), hO2⟩
theorem tame_row {v : Value} {E : TypeId} {l : Lds} {s : Bool} {j n : Nat} {us : List Value} {c : Option Blk} (h : SRow v E 4 n (upd (ldF (l.tameTo s j)) j us) c) (e : us = ldF (l.tame s) j) : SRow v E 4 n (ldF (l.tameTo s ((j + 1 : Nat) : Int))) c := by
 rw [e] at h
 exact h.congr (tame_step l s j n)
set_option maxHeartbeats 2000000 in
theorem tame7_any (la : Option Addr) (lc : Nat) (l : Lds) (most : Nat) (s : Bool) (w : World) (hc : l.n ≤ lc) (hm : most ≤ 1000) (hI : l.I64) (hl : SAt w.heap.size w la 4 l.n (ldF l)) :
  Calls Try.prog 13 #[.slice la l.n lc, iv most, .bool s] w fun e w' => ∃ (va : Option Addr) (vc : Nat) (c : Option Blk), e = .returned (.slice va (min l.n most) vc) ∧ SRow (.slice va (min l.n most) vc) 72 4 (min l.n most) (ldF (l.tame s)) c ∧ Own w.heap.size w w' [c] := by
 refine calls_of_run (F := [(0, _), (1, _), (2, _)]) Try.func13 rfl Try.ntmps13 rfl rfl ?_
 have hO0 := Own.init w
 refine run_seq <| run_region <| rl_v rfl rfl rfl (ov_assign rfl rfl) <| rl_nil <| run_seq <| run_region <| rl_v rfl rfl rfl (ov_move rfl rfl) <| rl_v rfl rfl rfl (ov_move rfl rfl) ?_
 refine rl_call callable_38 rfl rfl rfl rfl rfl rfl (some7_any la lc l most _ hc hm (hO0.satU hl)) (fun e1 w2 hp3 => ?_)
 obtain ⟨v7, c7, rfl, hr7, hO1⟩ := hp3
 refine ⟨_, rfl, ?_⟩
 have hO4 := hO0.join hO1
 obtain ⟨va, vc, rfl⟩ := Row.val hr7
 obtain ⟨vb, hvb⟩ := hr7.addr
 obtain ⟨n, hn0⟩ : ∃ n, n = min l.n most := ⟨_, rfl⟩
 rw [← hn0] at hr7 hvb ⊢
 refine rl_v rfl rfl rfl (ov_assign rfl rfl) <| rl_nil <| run_seq <| run_seq <| run_region <| rl_v rfl rfl rfl (ov_assign rfl rfl) <| rl_nil <| run_block <| Run.keep [2, 7, 8] (F' := [(2, _), (7, _), (8, _)]) rfl <| run_loop1 (fun (j : Nat) => [(8, .int .i64 (j : Int))]) [2, 7] (fun (j : Nat) (w5 : World) => j ≤ n ∧ ∃ c9 : Option Blk, SRow (.slice va n vc) 72 4 n (ldF (l.tameTo s j)) c9 ∧ Own w.heap.size w w5 [c9]) (fun (j : Nat) => n - j) (0) ?_ (And.intro (by exact slot_int rfl (by first | omega)) (And.intro rfl (And.intro rfl trivial))) ?_
 ·exact ⟨Nat.zero_le _, c7, hr7.congr fun i i0 i1 => by unfold ldF Lds.tameTo; dsimp only; rw [if_neg (by omega), if_neg (by omega), if_neg (by omega), if_neg (by omega)], hO4⟩
 intro j w5 hIw5 ih6
 obtain ⟨hj, c9, hr9, hO2⟩ := hIw5
 show Run _ _ _ _ [(8, _), (2, _), (7, _)] _ _
 refine run_seq <| run_seq <| run_region <| rl_v rfl rfl rfl (ov_move rfl rfl) <| rl_v rfl rfl rfl (ov_move rfl rfl) <| rl_v rfl rfl rfl (ov_len rfl Try.underlying22 rfl) <| rl_v rfl rfl rfl (ov_lss rfl rfl rfl) <| rl_nil ?_
 first | refine run_cond_dec rfl (fun c1 => ?_) (fun c1 => ?_) | refine run_cond rfl (fun c1 => ?_) (fun c1 => ?_)
 ·have hld : ldF (l.tameTo s j) j = ldF l j := by
   unfold ldF Lds.tameTo; dsimp only; rw [if_neg (by omega), if_neg (by omega), if_neg (by omega), if_neg (by omega)]
  have hjn : (j : Int) < l.n := by omega
  have hi1 := hI.r j (by omega) hjn
  have hi2 := hI.d j (by omega) hjn
  have hi3 := hI.len j (by omega) hjn
  have hi4 := hI.wo j (by omega) hjn
  refine run_skip <| run_seq <| run_block <| run_seq <| run_region <| rl_v rfl rfl rfl (ov_move rfl rfl) <| rl_v rfl rfl rfl (ov_move rfl rfl) <| rl_v rfl rfl rfl (ov_index rfl Try.underlying22 (by kernel_rfl) (s := 4) rfl rfl ⟨by omega, by omega⟩ (by exact hvb (by omega))) ?_
  refine rl_v rfl rfl rfl (ov_loadE rfl Try.underlying72 rfl (by kernel_rfl) rfl ⟨by omega, by omega⟩ rfl ((hr9.cellU hO2 0 rfl (hvb (by omega))))) ?_
  refine rl_ow rfl (ow_alloc _ rfl rfl rfl zero_72 rfl hO2) ?_
  rintro _ w7 ⟨t9, rfl, hO8, hs9⟩
  refine rl_ow rfl (ow_storeW rfl rfl (by kernel_rfl) hO8 0 rfl rfl (by rfl) rfl (by rfl)) ?_
  rintro _ w10 ⟨rfl, hO11, hs12⟩
  have hOl := hO11
  rw [hld] at hOl
  refine rl_nil <| run_seq <| run_seq <| run_region <| rl_v rfl rfl rfl (ov_loadW rfl Try.underlying72 rfl (by kernel_rfl) rfl hOl 0 rfl) ?_
  refine rl_ow rfl (ow_build [_] rfl rfl rfl rfl rfl Try.underlying22 info_72 (by decide) hOl rfl rfl) ?_
  rintro _ w13 ⟨b24, rfl, hO14, hs15⟩
  refine rl_call callable_22 rfl rfl rfl rfl rfl rfl (refCheck7_any (some ⟨b24, 0, none⟩) 1 ⟨1, fun _ => l.r j, fun _ => l.d j, fun _ => l.len j, fun _ => l.wo j⟩ _ (show (1 : Nat) ≤ 100000 by decide) ⟨fun _ _ _ => hi1, fun _ _ _ => hi2, fun _ _ _ => hi3, fun _ _ _ => hi4⟩ (SAt.one7 (hO14.reads 0 rfl (1 * 4) (Nat.le_refl _)))) (fun e16 w17 hp18 => ?_)
  obtain ⟨rfl, hO5⟩ := hp18
  refine ⟨_, rfl, ?_⟩
  have hO19 := hO14.join hO5
  refine rl_v rfl rfl rfl (ov_neq rfl rfl rfl) <| rl_nil ?_
  first | refine run_cond_dec rfl (fun c2 => ?_) (fun c2 => ?_) | refine run_cond rfl (fun c2 => ?_) (fun c2 => ?_)
  ·have hbad : ¬ l.Val j := fun h => c2 (Lds.chk_ok (show (1 : Nat) ≤ 256 by decide) (fun _ _ _ => h))
   have hR := l.tRng j
   obtain ⟨q, hq⟩ : ∃ q, q = l.d j % 18446744073709551616 % 8 := ⟨_, rfl⟩
   have hq8 : 0 ≤ q ∧ q < 8 := by rw [hq]; exact (modsD ⟨by decide, by decide⟩).2
   refine run_seq <| run_region <| rl_v rfl rfl rfl (ov_fieldS rfl Try.underlying72 rfl (fo := 0) rfl (by kernel_rfl) rfl) ?_
   refine rl_v rfl rfl rfl (ov_load rfl Try.underlying3 rfl rfl (by exact hO19.cellL 1 rfl (off := 0) rfl)) ?_
   refine rl_v rfl rfl rfl (ov_conv rfl Try.underlying3 Try.underlying33 rfl) <| rl_v rfl rfl rfl (ov_rem rfl rfl rfl (u64_nnD _) (by omega)) ?_
   refine rl_v rfl rfl rfl (ov_convTo ((show IntKind.i64.wrap (IntKind.u64.wrap (l.r j) % 12) = l.tR j from (modsD ⟨by decide, by decide⟩).1)) rfl Try.underlying33 Try.underlying3 rfl) ?_
   refine rl_v rfl rfl rfl (ov_fieldS rfl Try.underlying72 rfl (fo := 0) rfl (by kernel_rfl) rfl) ?_
   refine rl_ow rfl (ow_storeL rfl rfl (by kernel_rfl) hO19 1 rfl rfl rfl rfl rfl) ?_
   rintro _ w20 ⟨rfl, hO21, hs22⟩
   refine rl_nil <| run_seq <| run_region <| rl_v rfl rfl rfl (ov_fieldS rfl Try.underlying72 rfl (fo := 0) rfl (by kernel_rfl) rfl) ?_
   refine rl_v rfl rfl rfl (ov_load rfl Try.underlying3 rfl rfl (by exact hO21.cellL 1 rfl (off := 0) rfl)) ?_
   refine rl_v rfl rfl rfl (ov_add rfl rfl rfl (by omega)) ?_
   refine rl_v rfl rfl rfl (ov_fieldS rfl Try.underlying72 rfl (fo := 1) rfl (by kernel_rfl) rfl) ?_
   refine rl_v rfl rfl rfl (ov_load rfl Try.underlying3 rfl rfl (by exact hO21.cellL 1 rfl (off := 1) rfl)) ?_
   refine rl_v rfl rfl rfl (ov_conv rfl Try.underlying3 Try.underlying33 rfl) <| rl_v rfl rfl rfl (ov_rem rfl rfl rfl (u64_nnD _) (by omega)) ?_
   refine rl_v rfl rfl rfl (ov_convTo (((modsD ⟨by decide, by decide⟩).1.trans hq.symm)) rfl Try.underlying33 Try.underlying3 rfl) ?_
   refine rl_v rfl rfl rfl (ov_add rfl rfl rfl (by omega)) ?_
   refine rl_v rfl rfl rfl (ov_fieldS rfl Try.underlying72 rfl (fo := 1) rfl (by kernel_rfl) rfl) ?_
   refine rl_ow rfl (ow_storeL rfl rfl (by kernel_rfl) hO21 1 rfl rfl rfl rfl rfl) ?_
   rintro _ w23 ⟨rfl, hO24, hs25⟩
   have hm3 := (modsD (x := l.len j) (m := l.tR j + 1 + q - l.tR j) ⟨by omega, by omega⟩).2
   refine rl_nil <| run_seq <| run_region <| rl_v rfl rfl rfl (ov_fieldS rfl Try.underlying72 rfl (fo := 2) rfl (by kernel_rfl) rfl) ?_
   refine rl_v rfl rfl rfl (ov_load rfl Try.underlying3 rfl rfl (by exact hO24.cellL 1 rfl (off := 2) rfl)) ?_
   refine rl_v rfl rfl rfl (ov_conv rfl Try.underlying3 Try.underlying33 rfl) <| rl_v rfl rfl rfl (ov_fieldS rfl Try.underlying72 rfl (fo := 1) rfl (by kernel_rfl) rfl) ?_
   refine rl_v rfl rfl rfl (ov_load rfl Try.underlying3 rfl rfl (by exact hO24.cellL 1 rfl (off := 1) rfl)) ?_
   refine rl_v rfl rfl rfl (ov_fieldS rfl Try.underlying72 rfl (fo := 0) rfl (by kernel_rfl) rfl) ?_
   refine rl_v rfl rfl rfl (ov_load rfl Try.underlying3 rfl rfl (by exact hO24.cellL 1 rfl (off := 0) rfl)) ?_
   refine rl_v rfl rfl rfl (ov_sub rfl rfl rfl (by omega)) ?_
   refine rl_v rfl rfl rfl (ov_convTo (((IntKind.wrap_u64 _).trans (Int.emod_eq_of_lt (by omega) (by omega)))) rfl Try.underlying3 Try.underlying33 rfl) ?_
   refine rl_v rfl rfl rfl (ov_rem rfl rfl rfl (u64_nnD _) (by omega)) ?_
   refine rl_v rfl rfl rfl (ov_convTo ((modsD (x := l.len j) (m := l.tR j + 1 + q - l.tR j) ⟨by omega, by omega⟩).1) rfl Try.underlying33 Try.underlying3 rfl) ?_
   refine rl_v rfl rfl rfl (ov_add rfl rfl rfl (by omega)) ?_
   refine rl_v rfl rfl rfl (ov_fieldS rfl Try.underlying72 rfl (fo := 2) rfl (by kernel_rfl) rfl) ?_
   refine rl_ow rfl (ow_storeL rfl rfl (by kernel_rfl) hO24 1 rfl rfl rfl rfl rfl) ?_
   rintro _ w26 ⟨rfl, hO27, hs28⟩
   refine rl_nil <| run_region <| rl_v rfl rfl rfl (ov_fieldS rfl Try.underlying72 rfl (fo := 3) rfl (by kernel_rfl) rfl) ?_
   refine rl_v rfl rfl rfl (ov_load rfl Try.underlying3 rfl rfl (by exact hO27.cellL 1 rfl (off := 3) rfl)) ?_
   refine rl_v rfl rfl rfl (ov_conv rfl Try.underlying3 Try.underlying33 rfl) <| rl_v rfl rfl rfl (ov_rem rfl rfl rfl (u64_nnD _) (by omega)) ?_
   refine rl_v rfl rfl rfl (ov_convTo ((show IntKind.i64.wrap (IntKind.u64.wrap (l.wo j) % 20) = l.tW j from (modsD ⟨by decide, by decide⟩).1)) rfl Try.underlying33 Try.underlying3 rfl) ?_
   refine rl_v rfl rfl rfl (ov_fieldS rfl Try.underlying72 rfl (fo := 3) rfl (by kernel_rfl) rfl) ?_
   refine rl_ow rfl (ow_storeL rfl rfl (by kernel_rfl) hO27 1 rfl rfl rfl rfl rfl) ?_
   rintro _ w29 ⟨rfl, hO30, hs31⟩
   refine rl_nil <| run_seq <| run_seq <| run_region <| rl_v rfl rfl rfl (ov_move rfl rfl) <| rl_nil ?_
   first | refine run_cond_dec rfl (fun c3 => ?_) (fun c3 => ?_) | refine run_cond rfl (fun c3 => ?_) (fun c3 => ?_)
   ·refine run_region <| rl_v rfl rfl rfl (ov_fieldS rfl Try.underlying72 rfl (fo := 2) rfl (by kernel_rfl) rfl) ?_
    refine rl_ow rfl (ow_storeL rfl rfl (by kernel_rfl) hO30 1 rfl rfl rfl rfl rfl) ?_
    rintro _ w32 ⟨rfl, hO33, hs34⟩
    refine rl_nil <| run_region <| rl_v rfl rfl rfl (ov_move rfl rfl) <| rl_v rfl rfl rfl (ov_move rfl rfl) <| rl_v rfl rfl rfl (ov_loadW rfl Try.underlying72 rfl (by kernel_rfl) rfl hO33 1 rfl) ?_
    refine rl_v rfl rfl rfl (ov_index rfl Try.underlying22 (by kernel_rfl) (s := 4) rfl rfl ⟨by omega, by omega⟩ (by exact hvb (by omega))) ?_
    refine rl_ow rfl (ow_storeS rfl rfl (by kernel_rfl) hO33 hr9 (kk := 2) rfl (fun _ => hvb (by omega)) rfl ⟨by omega, by omega⟩ rfl rfl rfl) ?_
    rintro _ w35 ⟨c10, rfl, hO36, hR10, hs37⟩
    refine rl_nil <| run_inBlock <| run_region <| rl_v rfl rfl rfl (ov_move rfl rfl) <| rl_v rfl rfl rfl (ov_add rfl rfl rfl (by omega)) ?_
    refine rl_v rfl rfl rfl (ov_assign rfl rfl) <| rl_nil ?_
    refine Run.use (ih6 (j + 1) _ ?_ ?_) (And.intro (by exact slot_int rfl (by first | omega)) (And.intro rfl (And.intro rfl trivial)))
    ·first | omega | (dsimp only; omega)
    ·exact ⟨by omega, c10, tame_row hR10 (by subst c3; unfold ldF Lds.tame; dsimp only; rw [if_neg hbad, if_neg hbad, if_neg hbad, if_neg hbad]; subst hq; rfl), hO36.tail.tail⟩
   ·refine run_skip <| run_region <| rl_v rfl rfl rfl (ov_move rfl rfl) <| rl_v rfl rfl rfl (ov_move rfl rfl) <| rl_v rfl rfl rfl (ov_loadW rfl Try.underlying72 rfl (by kernel_rfl) rfl hO30 1 rfl) ?_
    refine rl_v rfl rfl rfl (ov_index rfl Try.underlying22 (by kernel_rfl) (s := 4) rfl rfl ⟨by omega, by omega⟩ (by exact hvb (by omega))) ?_
    refine rl_ow rfl (ow_storeS rfl rfl (by kernel_rfl) hO30 hr9 (kk := 2) rfl (fun _ => hvb (by omega)) rfl ⟨by omega, by omega⟩ rfl rfl rfl) ?_
    rintro _ w38 ⟨c10, rfl, hO39, hR10, hs40⟩
    refine rl_nil <| run_inBlock <| run_region <| rl_v rfl rfl rfl (ov_move rfl rfl) <| rl_v rfl rfl rfl (ov_add rfl rfl rfl (by omega)) ?_
    refine rl_v rfl rfl rfl (ov_assign rfl rfl) <| rl_nil ?_
    refine Run.use (ih6 (j + 1) _ ?_ ?_) (And.intro (by exact slot_int rfl (by first | omega)) (And.intro rfl (And.intro rfl trivial)))
    ·first | omega | (dsimp only; omega)
    ·exact ⟨by omega, c10, tame_row hR10 (by subst c3; unfold ldF Lds.tame; dsimp only; rw [if_neg hbad, if_neg hbad, if_neg hbad, if_neg hbad]; subst hq; rfl), hO39.tail.tail⟩
  ·have hgood : l.Val j := (Lds.of_chk (Classical.not_not.1 c2)).2 0 (Int.le_refl 0) (by show (0 : Int) < ((1 : Nat) : Int); decide)
   refine run_skip <| run_seq <| run_seq <| run_region <| rl_v rfl rfl rfl (ov_move rfl rfl) <| rl_nil ?_
   first | refine run_cond_dec rfl (fun c3 => ?_) (fun c3 => ?_) | refine run_cond rfl (fun c3 => ?_) (fun c3 => ?_)
   ·refine run_region <| rl_v rfl rfl rfl (ov_fieldS rfl Try.underlying72 rfl (fo := 2) rfl (by kernel_rfl) rfl) ?_
    refine rl_ow rfl (ow_storeL rfl rfl (by kernel_rfl) hO19 1 rfl rfl rfl rfl rfl) ?_
    rintro _ w41 ⟨rfl, hO42, hs43⟩
    refine rl_nil <| run_region <| rl_v rfl rfl rfl (ov_move rfl rfl) <| rl_v rfl rfl rfl (ov_move rfl rfl) <| rl_v rfl rfl rfl (ov_loadW rfl Try.underlying72 rfl (by kernel_rfl) rfl hO42 1 rfl) ?_
    refine rl_v rfl rfl rfl (ov_index rfl Try.underlying22 (by kernel_rfl) (s := 4) rfl rfl ⟨by omega, by omega⟩ (by exact hvb (by omega))) ?_
    refine rl_ow rfl (ow_storeS rfl rfl (by kernel_rfl) hO42 hr9 (kk := 2) rfl (fun _ => hvb (by omega)) rfl ⟨by omega, by omega⟩ rfl rfl rfl) ?_
    rintro _ w44 ⟨c10, rfl, hO45, hR10, hs46⟩
    refine rl_nil <| run_inBlock <| run_region <| rl_v rfl rfl rfl (ov_move rfl rfl) <| rl_v rfl rfl rfl (ov_add rfl rfl rfl (by omega)) ?_
    refine rl_v rfl rfl rfl (ov_assign rfl rfl) <| rl_nil ?_
    refine Run.use (ih6 (j + 1) _ ?_ ?_) (And.intro (by exact slot_int rfl (by first | omega)) (And.intro rfl (And.intro rfl trivial)))
    ·first | omega | (dsimp only; omega)
    ·exact ⟨by omega, c10, tame_row hR10 (by subst c3; unfold ldF Lds.tame; dsimp only; rw [if_pos hgood, if_pos hgood, if_pos hgood, if_pos hgood]; rfl), hO45.tail.tail⟩
   ·refine run_skip <| run_region <| rl_v rfl rfl rfl (ov_move rfl rfl) <| rl_v rfl rfl rfl (ov_move rfl rfl) <| rl_v rfl rfl rfl (ov_loadW rfl Try.underlying72 rfl (by kernel_rfl) rfl hO19 1 rfl) ?_
    refine rl_v rfl rfl rfl (ov_index rfl Try.underlying22 (by kernel_rfl) (s := 4) rfl rfl ⟨by omega, by omega⟩ (by exact hvb (by omega))) ?_
    refine rl_ow rfl (ow_storeS rfl rfl (by kernel_rfl) hO19 hr9 (kk := 2) rfl (fun _ => hvb (by omega)) rfl ⟨by omega, by omega⟩ rfl rfl rfl) ?_
    rintro _ w47 ⟨c10, rfl, hO48, hR10, hs49⟩
    refine rl_nil <| run_inBlock <| run_region <| rl_v rfl rfl rfl (ov_move rfl rfl) <| rl_v rfl rfl rfl (ov_add rfl rfl rfl (by omega)) ?_
    refine rl_v rfl rfl rfl (ov_assign rfl rfl) <| rl_nil ?_
    refine Run.use (ih6 (j + 1) _ ?_ ?_) (And.intro (by exact slot_int rfl (by first | omega)) (And.intro rfl (And.intro rfl trivial)))
    ·first | omega | (dsimp only; omega)
    ·exact ⟨by omega, c10, tame_row hR10 (by subst c3; unfold ldF Lds.tame; dsimp only; rw [if_pos hgood, if_pos hgood, if_pos hgood, if_pos hgood]; rfl), hO48.tail.tail⟩
 ·have hjn : j = n := by omega
  rw [hjn] at hr9
  refine run_exit rfl <| run_seq <| run_region <| rl_v rfl rfl rfl (ov_move rfl rfl) <| rl_v rfl rfl rfl (ov_assign rfl rfl) <| rl_nil <| run_ret Try.func13 (res1 Try.results13 rfl) ?_
  exact ⟨va, vc, c9, rfl, hr9.congr fun i i0 i1 => by unfold ldF Lds.tameTo; dsimp only; rw [if_pos i1, if_pos i1, if_pos i1, if_pos i1], hO2⟩
end Go.Proofs.Ytbepolognfdkeaa
