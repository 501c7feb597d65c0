import Derived.Test.YtbepolognfdkeaaGreatNetE
import Derived.Test.YtbepolognfdkeaaGreatHlD
import Derived.Test.YtbepolognfdkeaaGreatGaN
import Derived.Laws.StructEq
set_option maxRecDepth 100000
namespace Go.Proofs.YtbepolognfdkeaaGreat
open Go.RowKit Go.Proofs
theorem IRow.made (b : Nat) (E : TypeId) (n : Nat) (G : Int → Value) (h : n ≤ 9223372036854775807) : IRow (.slice (some ⟨b, 0, none⟩) n n) E n G (some (vch b E n G)) :=
 .inr ⟨b, n, _, rfl, Nat.le_refl _, by unfold maxLen; omega, by simp [vch], fun _ _ => rfl⟩
theorem cancelled_any (b n c M ca : Nat) (ao aa : Option Addr) (D : Int → Int → Int) (lf : Int → Int) (w : World) (hn : 1 ≤ n) (hn2 : n ≤ 32) (hM : (M : Int) = 2 * ((n : Int) * n)) (hD : ∀ i j, D i j ≤ 1000000) (hF : Flow n D lf)
  (hL : LAt w.heap.size w b [.slice ao n c, .slice aa M ca]) (hA : SAt w.heap.size w aa 4 M (arcL (afr n) (ato n) lf agn)) :
  Calls Tryz.prog 75 #[.pointer (some ⟨b, 0, none⟩)] w fun e w' =>
   ∃ (v : Value) (H : List (Option Blk)), e = .returned (.tuple #[v, .int .i64 (amt n lf)]) ∧ OTab v 59 2 n (fun _ => n) (fun r c => .int .i64 (xfN n lf r c)) H ∧ Own w.heap.size w w' H := by
 have hc := hL.open
 have hnn : (n : Int) * n ≤ 1024 := (mulb (show (0 : Int) ≤ n by omega) (show (n : Int) ≤ 32 by omega) (show (0 : Int) ≤ n by omega) (show (n : Int) ≤ 32 by omega)).2
 obtain ⟨gb, go, hga, hrow⟩ := hA.open (by omega)
 have hx : ∀ i j : Int, 0 ≤ i → i < n → 0 ≤ j → j < n → 0 ≤ xfN n lf i j ∧ xfN n lf i j ≤ 1000000 := fun i j a b c d => by have := hF.le i j a b c d; have := hD i j; omega
 have hrow_le : ∀ i : Int, 0 ≤ i → i < n → ∀ j : Int, 0 ≤ j → j ≤ n → 0 ≤ sm (xfN n lf i) j ∧ sm (xfN n lf i) j ≤ j * 1000000 := fun i a b j c d =>
  ⟨sm_nonneg fun k k0 k1 => (hx i k a b k0 (by omega)).1, sm_bound _ c fun k k0 k1 => (hx i k a b k0 (by omega)).2⟩
 have hrows_le : ∀ k : Int, 0 ≤ k → k ≤ n → 0 ≤ sm (fun i => sm (xfN n lf i) n) k ∧ sm (fun i => sm (xfN n lf i) n) k ≤ k * 32000000 := fun k a b =>
  ⟨sm_nonneg fun i i0 i1 => (hrow_le i i0 (by omega) n (by omega) (Int.le_refl _)).1, sm_bound _ a fun i i0 i1 => by have := (hrow_le i i0 (by omega) n (by omega) (Int.le_refl _)).2; omega⟩
 refine calls_of_run (F := [(0, _)]) Tryz.func75 rfl Tryz.ntmps75 rfl rfl ?_
 have hO0 := Own.init w
 refine run_seq <| run_region <| rl_v rfl rfl rfl (ov_assign rfl rfl) <| rl_v rfl rfl rfl (ov_assign rfl rfl) <| rl_nil <| run_seq <| run_region <| rl_v rfl rfl rfl (ov_move rfl rfl) <| rl_v rfl rfl rfl (ov_nil rfl rfl) <| rl_v rfl rfl rfl (ov_fieldS rfl Tryz.underlying178 rfl (fo := 0) rfl (by kernel_rfl) rfl) ?_
 refine rl_v rfl rfl rfl (ov_load rfl Tryz.underlying55 rfl rfl (by exact hc _ hO0.below rfl)) ?_
 refine rl_v rfl rfl rfl (ov_len rfl Tryz.underlying55 rfl) <| rl_v rfl rfl rfl (ov_assign rfl rfl) <| rl_nil <| run_seq <| run_seq <| run_region <| rl_v rfl rfl rfl (ov_move rfl rfl) <| rl_v rfl rfl rfl (ov_move rfl rfl) <| rl_nil <| run_block <| Run.keep [0, 2, 3, 4, 13, 14] (F' := [(0, _), (2, _), (3, _), (4, _), (13, _), (14, _)]) rfl <| run_loop4 (fun (v : Value) (k : Int) (m : Nat) (H : List (Option Blk)) => [(2, v), (3, .int .i64 (sm (fun i => sm (xfN n lf i) n) k)), (14, .int .i64 k)]) [0, 4, 13] (fun (v : Value) (k : Int) (m : Nat) (H : List (Option Blk)) (w1 : World) => k = m ∧ k ≤ n ∧ OTab v 59 2 m (fun _ => n) (fun r c => .int .i64 (xfN n lf r c)) H ∧ Own w.heap.size w w1 H) (fun (v : Value) (k : Int) (m : Nat) (H : List (Option Blk)) => n - m) (.slice none 0 0) (0) (0) ([none]) ?_ (And.intro rfl (And.intro (by rfl) (And.intro (by exact slot_int rfl (by first | omega)) (And.intro rfl (And.intro rfl (And.intro rfl trivial)))))) ?_
 ·exact ⟨rfl, by omega, OTab.nil _ _ _ _, hO0.nil_cons⟩
 intro v k m H w1 hIw1 ih2
 obtain ⟨hm, hk, hT, hO⟩ := hIw1
 show Run _ _ _ _ [(2, _), (3, _), (14, _), (0, _), (4, _), (13, _)] _ _
 have hrs := hrows_le k (by omega) hk
 refine run_seq <| run_region <| rl_v rfl rfl rfl (ov_lss rfl rfl rfl) <| rl_nil <| run_seq ?_
 first | refine run_cond_dec rfl (fun h1 => ?_) (fun h1 => ?_) | refine run_cond rfl (fun h1 => ?_) (fun h1 => ?_)
 ·refine run_skip <| run_seq <| run_block <| run_seq <| run_region <| rl_v rfl rfl rfl (ov_move rfl rfl) <| rl_v rfl rfl rfl (ov_assign rfl rfl) <| rl_nil <| run_seq <| run_region <| rl_v rfl rfl rfl (ov_move rfl rfl) <| rl_ow rfl (ow_make (n) rfl rfl rfl Tryz.underlying59 info_2 rfl hO rfl rfl (by rfl) (by rfl) ⟨by omega, by omega⟩) ?_
  rintro _ w3 ⟨br, rfl, hO4, hs5⟩
  refine rl_v rfl rfl rfl (ov_assign rfl rfl) <| rl_nil <| run_seq <| run_seq <| run_region <| rl_v rfl rfl rfl (ov_move rfl rfl) <| rl_v rfl rfl rfl (ov_len rfl Tryz.underlying59 rfl) <| rl_v rfl rfl rfl (ov_move rfl rfl) <| rl_nil <| run_block <| Run.keep [0, 2, 3, 4, 5, 6, 13, 14, 20, 21] (F' := [(0, _), (2, _), (3, _), (4, _), (5, _), (6, _), (13, _), (14, _), (20, _), (21, _)]) rfl <| run_loop2 (fun (j : Int) (g : Int → Int) => [(21, .int .i64 j), (3, .int .i64 (sm (fun i => sm (xfN n lf i) n) k + sm (xfN n lf k) j))]) [0, 2, 4, 5, 6, 13, 14, 20] (fun (j : Int) (g : Int → Int) (w6 : World) => 0 ≤ j ∧ j ≤ n ∧ (∀ c : Int, 0 ≤ c → c < j → g c = xfN n lf k c) ∧ Own w.heap.size w w6 (some (vch br 2 n (fun c => .int .i64 (g c))) :: H)) (fun (j : Int) (g : Int → Int) => ((n : Int) - j).toNat) (0) (fun _ => 0) ?_ (And.intro (by exact slot_int rfl (by first | omega)) (And.intro (by exact slot_int rfl (by first | omega | (first | (rw [sm_zero, Int.add_zero]; done) | (rw [sm_succ _ hj0, upd_same]; unfold xfN; omega) | (rw [sm_succ _ (show 0 ≤ k by omega)]; done)))) (And.intro rfl (And.intro rfl (And.intro rfl (And.intro rfl (And.intro rfl (And.intro rfl (And.intro rfl (And.intro rfl trivial)))))))))) ?_
  ·exact ⟨by omega, by omega, fun c c0 c1 => by omega, hO4⟩
  intro j g w6 hIw6 ih7
  obtain ⟨hj0, hj1, hg, hO2⟩ := hIw6
  show Run _ _ _ _ [(21, _), (3, _), (0, _), (2, _), (4, _), (5, _), (6, _), (13, _), (14, _), (20, _)] _ _
  refine run_seq <| run_region <| rl_v rfl rfl rfl (ov_lss rfl rfl rfl) <| rl_nil <| run_seq ?_
  first | refine run_cond_dec rfl (fun h2 => ?_) (fun h2 => ?_) | refine run_cond rfl (fun h2 => ?_) (fun h2 => ?_)
  ·have hr1 := hrow_le k (by omega) h1 j hj0 hj1
   have hx1 := hx k j (by omega) h1 hj0 h2
   have hkn := mulb (show 0 ≤ k by omega) (show k ≤ 31 by omega) (show (0 : Int) ≤ n by omega) (show (n : Int) ≤ 32 by omega)
   have hkn2 : k * (n : Int) + j < (n : Int) * n := by
    have : (k + 1) * (n : Int) ≤ (n : Int) * n := Int.mul_le_mul_of_nonneg_right (by omega) (by omega)
    rw [Int.add_mul, Int.one_mul] at this
    omega
   refine run_skip <| run_seq <| run_block <| run_seq <| run_region <| rl_v rfl rfl rfl (ov_move rfl rfl) <| rl_v rfl rfl rfl (ov_assign rfl rfl) <| rl_nil <| run_seq <| run_region <| rl_v rfl rfl rfl (ov_move rfl rfl) <| rl_v rfl rfl rfl (ov_move rfl rfl) <| rl_v rfl rfl rfl (ov_move rfl rfl) <| rl_v rfl rfl rfl (ov_nil rfl rfl) <| rl_v rfl rfl rfl (ov_fieldS rfl Tryz.underlying178 rfl (fo := 1) rfl (by kernel_rfl) rfl) ?_
   refine rl_v rfl rfl rfl (ov_load rfl Tryz.underlying176 rfl rfl (by exact hc _ hO2.below rfl)) ?_
   refine rl_v rfl rfl rfl (ov_move rfl rfl) <| rl_v rfl rfl rfl (ov_move rfl rfl) <| rl_v rfl rfl rfl (ov_mul rfl rfl rfl (by omega)) ?_
   refine rl_v rfl rfl rfl (ov_move rfl rfl) <| rl_v rfl rfl rfl (ov_add rfl rfl rfl (by omega)) ?_
   refine rl_v rfl rfl rfl (ov_mul rfl rfl rfl (by omega)) ?_
   refine rl_v rfl rfl rfl (ov_add rfl rfl rfl (by omega)) ?_
   refine rl_v rfl rfl rfl (ov_index rfl Tryz.underlying176 (by kernel_rfl) (s := 4) rfl rfl ⟨by omega, by omega⟩ (by exact hga (by omega))) ?_
   refine rl_v rfl rfl rfl (ov_fieldS rfl Tryz.underlying180 rfl (fo := 2) rfl (by kernel_rfl) rfl) ?_
   refine rl_v rfl rfl rfl (ov_load rfl Tryz.underlying2 rfl rfl (by exact hrow _ hO2.below _ (by omega) (by omega) _ (by omega))) ?_
   refine rl_v rfl rfl rfl (ov_index1 rfl Tryz.underlying59 (by kernel_rfl) rfl rfl ⟨by omega, by omega⟩ (by rfl)) ?_
   refine rl_ow rfl (ow_storeI rfl rfl (by kernel_rfl) hO2 0 rfl rfl ⟨by omega, by omega⟩ rfl) ?_
   rintro _ w8 ⟨rfl, hO9, hs10⟩
   refine rl_nil <| run_region <| rl_v rfl rfl rfl (ov_move rfl rfl) <| rl_v rfl rfl rfl (ov_move rfl rfl) <| rl_v rfl rfl rfl (ov_move rfl rfl) <| rl_v rfl rfl rfl (ov_index1 rfl Tryz.underlying59 (by kernel_rfl) rfl rfl ⟨by omega, by omega⟩ (by rfl)) ?_
   refine rl_v rfl rfl rfl (ov_load rfl Tryz.underlying2 rfl rfl (by exact hO9.cellI 0 rfl _ (by omega) (by omega))) ?_
   refine rl_v rfl rfl rfl (ov_add rfl rfl rfl (by rw [upd_same]; show _ ≤ _ + xfN n lf k j ∧ _ + xfN n lf k j ≤ _; omega)) ?_
   refine rl_v rfl rfl rfl (ov_assign rfl rfl) <| rl_nil <| run_inBlock <| run_region <| rl_v rfl rfl rfl (ov_add rfl rfl rfl (by omega)) ?_
   refine rl_v rfl rfl rfl (ov_move rfl rfl) <| rl_nil ?_
   refine Run.use (ih7 (j + 1) (upd g j (xfN n lf k j)) _ ?_ ?_) (And.intro (by exact slot_int rfl (by first | omega)) (And.intro (by exact slot_int rfl (by first | omega | (first | (rw [sm_zero, Int.add_zero]; done) | (rw [sm_succ _ hj0, upd_same]; unfold xfN; omega) | (rw [sm_succ _ (show 0 ≤ k by omega)]; done)))) (And.intro rfl (And.intro rfl (And.intro rfl (And.intro rfl (And.intro rfl (And.intro rfl (And.intro rfl (And.intro rfl trivial))))))))))
   ·first | omega | (dsimp only; omega)
   ·exact ⟨by omega, by omega, fun c c0 c1 => by unfold upd; split; (rename_i e; rw [e]); exact hg c c0 (by omega), hO9⟩
  ·obtain ⟨ao', cap', rfl⟩ := hT.val
   obtain ⟨c0, rv, ch, rfl, hv, h3⟩ := hT
   refine run_exit rfl <| run_region <| rl_v rfl rfl rfl (ov_move rfl rfl) <| rl_v rfl rfl rfl (ov_move rfl rfl) <| rl_ow rfl (ow_one rfl rfl rfl Tryz.underlying55 info_59 rfl hO2 rfl rfl) ?_
   rintro _ w11 ⟨b1, rfl, hO12, hs13⟩
   refine rl_ow rfl (ow_app1 rfl rfl rfl Tryz.underlying55 info_59 rfl hO12 1 hv rfl rfl rfl rfl ⟨by omega, by omega⟩) ?_
   rintro _ w14 ⟨v6, c6, rfl, hO15, hv6, hs16⟩
   obtain rfl : j = n := by omega
   obtain ⟨H', hT', hO'⟩ := OTab.snoc (L := fun _ => n) (F := fun r c => .int .i64 (xfN n lf r c)) (H0 := []) h3 (IRow.made br 2 n (fun c => .int .i64 (g c)) (by omega)) hv6 (by simpa using hO15) rfl (fun i i0 i1 => by rw [← hm, hg i i0 i1])
   refine rl_v rfl rfl rfl (ov_assign rfl rfl) <| rl_nil <| run_inBlock <| run_region <| rl_v rfl rfl rfl (ov_add rfl rfl rfl (by omega)) ?_
   refine rl_v rfl rfl rfl (ov_move rfl rfl) <| rl_nil ?_
   refine Run.use (ih2 _ (k + 1) (m + 1) (H') _ ?_ ?_) (And.intro rfl (And.intro (by exact slot_int rfl (by first | omega | (first | (rw [sm_zero, Int.add_zero]; done) | (rw [sm_succ _ hj0, upd_same]; unfold xfN; omega) | (rw [sm_succ _ (show 0 ≤ k by omega)]; done)))) (And.intro (by exact slot_int rfl (by first | omega)) (And.intro rfl (And.intro rfl (And.intro rfl trivial))))))
   ·first | omega | (dsimp only; omega)
   ·exact ⟨by omega, by omega, hT', by simpa using hO'⟩
 ·obtain rfl : m = n := by omega
  refine run_exit rfl <| run_seq <| run_region <| rl_v rfl rfl rfl (ov_move rfl rfl) <| rl_v rfl rfl rfl (ov_move rfl rfl) <| rl_v rfl rfl rfl (ov_assign rfl rfl) <| rl_v rfl rfl rfl (ov_assign rfl rfl) <| rl_nil <| run_ret Tryz.func75 (res2 Tryz.results75 rfl rfl) ?_
  exact ⟨v, H, by rw [hm]; rfl, hT, hO⟩
theorem alf_flow {n : Nat} {D : Int → Int → Int} (hD : ∀ i j, 0 ≤ D i j) : Flow n D (alf n D) := by
 have h0 : ∀ i j : Int, xfN n (alf n D) i j = 0 := fun i j => by
  unfold xfN alf
  rw [if_neg (by have := even_half (i * n + j); omega)]
 refine ⟨fun e _ _ => ?_, fun i j i0 i1 j0 j1 => ?_, fun v _ _ => ?_⟩
 ·unfold alf; split
  ·exact hD _ _
  ·exact Int.le_refl _
 ·obtain ⟨d1, d2⟩ := pair_div (i := i) j0 j1
  obtain ⟨g1, g2, g3, g4⟩ := even_half (i * n + j)
  unfold alf
  rw [if_pos g1, if_neg (by omega), g2, d1, d2, Int.add_zero]
 ·unfold outs ins
  rw [sm_congr (g := fun _ => 0) (fun i _ _ => h0 v i), sm_congr (g := fun _ => 0) (fun i _ _ => h0 i v)]
theorem cancel_any (ao : Option Addr) (n c : Nat) (D : Int → Int → Int) (w : World) (hv : Valid n D) (h : ITab w.heap.size w ao n (fun _ => n) (fun r c => .int .i64 (D r c))) :
  Calls Tryz.prog 47 #[.slice ao n c] w fun e w' =>
   ∃ (v : Value) (x : Int → Int → Int) (H : List (Option Blk)) (rk : Int → Int), e = .returned (.tuple #[v, .int .i64 (total n x), .int .i64 0]) ∧ OTab v 59 2 n (fun _ => n) (fun r c => .int .i64 (x r c)) H ∧ Own w.heap.size w w' H ∧
    Circ n D x ∧ (∀ i, 0 ≤ rk i ∧ rk i ≤ 100000) ∧ bnd n D rk = total n x := by
 have hpos := hv.pos
 have hle := hv.le
 have hM : ((2 * (n * n) : Nat) : Int) = 2 * ((n : Int) * n) := by simp
 have hM' : ((2 * (n * n) : Nat) : Int) = 2 * ((n : Int) * n) := hM
 refine calls_of_run (F := [(0, _)]) Tryz.func47 rfl Tryz.ntmps47 rfl rfl ?_
 have hO0 := Own.init w
 refine run_seq <| run_region <| rl_v rfl rfl rfl (ov_assign rfl rfl) <| rl_v rfl rfl rfl (ov_assign rfl rfl) <| rl_v rfl rfl rfl (ov_assign rfl rfl) <| rl_nil <| run_seq <| run_seq <| run_region <| rl_v rfl rfl rfl (ov_move rfl rfl) ?_
 refine rl_call callable_72 rfl rfl rfl rfl rfl rfl (check_any ao n c (fun _ => n) D _ (by omega) h) (fun e1 w2 hp3 => ?_)
 obtain ⟨rfl, hb⟩ := hp3
 refine ⟨_, rfl, ?_⟩
 have hO4 := hO0.past hb
 rw [hv.chk]
 refine rl_v rfl rfl rfl (ov_assign rfl rfl) <| rl_nil <| run_seq <| run_region <| rl_v rfl rfl rfl (ov_move rfl rfl) <| rl_v rfl rfl rfl (ov_neq rfl rfl rfl) <| rl_nil ?_
 first | refine run_cond_dec rfl (fun h1 => ?_) (fun h1 => ?_) | refine run_cond rfl (fun h1 => ?_) (fun h1 => ?_)
 ·exfalso; exact h1 rfl
 ·refine run_skip <| run_seq <| run_region <| rl_v rfl rfl rfl (ov_move rfl rfl) ?_
  refine rl_call callable_73 rfl rfl rfl rfl rfl rfl (newCircle_any ao n c D _ hle (h.later hO4.below)) (fun e5 w6 hp7 => ?_)
  obtain ⟨b, v1, c1, rfl, hO1, hR⟩ := hp7
  refine ⟨_, rfl, ?_⟩
  have hO8 := hO4.join hO1
  obtain ⟨aa, ca, rfl⟩ := hR.val
  refine rl_v rfl rfl rfl (ov_assign rfl rfl) <| rl_nil <| run_seq <| run_region <| rl_v rfl rfl rfl (ov_move rfl rfl) ?_
  refine rl_call callable_74 rfl rfl rfl rfl rfl rfl (fillN_any _ _ _ [] b n c (2 * (n * n)) ca ao aa c1 D (alf n D) hpos hle hM hv.hi hO8 hR (alf_flow hv.lo)) (fun e9 w10 hp11 => ?_)
  obtain ⟨bh, hh, lf, c2, rfl, hO2, hR2, hF, hhb, hcalm, _⟩ := hp11
  refine ⟨_, rfl, ?_⟩
  refine rl_nil <| run_seq <| run_region <| rl_v rfl rfl rfl (ov_move rfl rfl) ?_
  refine rl_call callable_75 rfl rfl rfl rfl rfl rfl (cancelled_any b n c (2 * (n * n)) ca ao aa D lf _ hpos hle hM hv.hi hF (hO2.readsL 1 rfl) (hR2.reads hO2 2 rfl)) (fun e12 w13 hp14 => ?_)
  obtain ⟨v3, H3, rfl, hT3, hO3⟩ := hp14
  refine ⟨_, rfl, ?_⟩
  have hO15 := hO2.join hO3
  refine rl_v rfl rfl rfl (ov_move rfl rfl) <| rl_v rfl rfl rfl (ov_extract rfl rfl (by rfl)) ?_
  refine rl_v rfl rfl rfl (ov_extract rfl rfl (by rfl)) ?_
  refine rl_v rfl rfl rfl (ov_assign rfl rfl) <| rl_v rfl rfl rfl (ov_assign rfl rfl) <| rl_nil <| run_seq <| run_region <| rl_v rfl rfl rfl (ov_move rfl rfl) <| rl_v rfl rfl rfl (ov_move rfl rfl) <| rl_v rfl rfl rfl (ov_assign rfl rfl) <| rl_v rfl rfl rfl (ov_assign rfl rfl) <| rl_v rfl rfl rfl (ov_assign rfl rfl) <| rl_nil <| run_ret Tryz.func47 (res3 Tryz.results47 rfl rfl rfl) ?_
  exact ⟨v3, xfN n lf, H3, hh, rfl, hT3, hO15.sub (List.sublist_append_left _ _), hF.circ, hhb, hF.strong (fun e e0 e1 => hcalm e e0 (by omega))⟩
end Go.Proofs.YtbepolognfdkeaaGreat
