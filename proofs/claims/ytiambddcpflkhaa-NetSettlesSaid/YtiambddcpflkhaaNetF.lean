/- cancelled, Cancel, Bound, Ranked. -/
import Derived.Test.YtiambddcpflkhaaNetE
set_option maxRecDepth 100000
namespace Go.Proofs.Ytiambddcpflkhaa
open Go.RowKit Go.Proofs

theorem IRow.made (b : Nat) (E : TypeId) (n : Nat) (G : Int → Value) (h : n ≤ 9223372036854775807) : IRow (.slice (some ⟨b, 0, none⟩) n n) E n G (some (vch b E n G)) :=
  .inr ⟨b, n, _, rfl, Nat.le_refl _, by unfold maxLen; omega, by simp [vch], fun _ _ => rfl⟩

theorem cancelled_any (b n c M ca : Nat) (ao aa : Option Addr) (D : Int → Int → Int) (lf : Int → Int) (w : World) (hn : 1 ≤ n) (hn2 : n ≤ 32) (hM : (M : Int) = 2 * ((n : Int) * n)) (hD : ∀ i j, D i j ≤ 1000000) (hF : Flow n D lf)
    (hL : LAt w.heap.size w b [.slice ao n c, .slice aa M ca]) (hA : SAt w.heap.size w aa 4 M (arcL (afr n) (ato n) lf agn)) :
    Calls Try.prog 61 #[.pointer (some ⟨b, 0, none⟩)] w fun e w' =>
      ∃ (v : Value) (H : List (Option Blk)), e = .returned (.tuple #[v, .int .i64 (amt n lf)]) ∧ OTab v 23 2 n (fun _ => n) (fun r c => .int .i64 (xf n lf r c)) H ∧ Own w.heap.size w w' H := by
  have hc := hL.open
  have hnn : (n : Int) * n ≤ 1024 := (mulb (show (0 : Int) ≤ n by omega) (show (n : Int) ≤ 32 by omega) (show (0 : Int) ≤ n by omega) (show (n : Int) ≤ 32 by omega)).2
  obtain ⟨gb, go, hga, hrow⟩ := hA.open (by omega)
  have hx : ∀ i j : Int, 0 ≤ i → i < n → 0 ≤ j → j < n → 0 ≤ xf n lf i j ∧ xf n lf i j ≤ 1000000 := fun i j a b c d => by have := hF.le i j a b c d; have := hD i j; omega
  have hrow_le : ∀ i : Int, 0 ≤ i → i < n → ∀ j : Int, 0 ≤ j → j ≤ n → 0 ≤ sm (xf n lf i) j ∧ sm (xf n lf i) j ≤ j * 1000000 := fun i a b j c d =>
    ⟨sm_nonneg fun k k0 k1 => (hx i k a b k0 (by omega)).1, sm_bound _ c fun k k0 k1 => (hx i k a b k0 (by omega)).2⟩
  have hrows_le : ∀ k : Int, 0 ≤ k → k ≤ n → 0 ≤ sm (fun i => sm (xf n lf i) n) k ∧ sm (fun i => sm (xf n lf i) n) k ≤ k * 32000000 := fun k a b =>
    ⟨sm_nonneg fun i i0 i1 => (hrow_le i i0 (by omega) n (by omega) (Int.le_refl _)).1, sm_bound _ a fun i i0 i1 => by have := (hrow_le i i0 (by omega) n (by omega) (Int.le_refl _)).2; omega⟩
  refine calls_of_run (F := [(0, _)]) Try.func61 rfl Try.ntmps61 rfl rfl ?_
  have hO0 := Own.init w
  refine run_seq ?_
  refine run_region ?_
  refine rl_v rfl rfl rfl (ov_assign rfl rfl) ?_
  refine rl_v rfl rfl rfl (ov_assign rfl rfl) ?_
  refine rl_nil ?_
  refine run_seq ?_
  refine run_region ?_
  refine rl_v rfl rfl rfl (ov_move rfl rfl) ?_
  refine rl_v rfl rfl rfl (ov_nil rfl rfl) ?_
  refine rl_v rfl rfl rfl (ov_fieldS rfl Try.underlying127 rfl (fo := 0) rfl (by kernel_rfl) rfl) ?_
  refine rl_v rfl rfl rfl (ov_load rfl Try.underlying22 rfl rfl (by first | exact hc _ hO0.below rfl | exact hrow _ hO0.below _ (by omega) (by omega) _ (by omega) | exact hO0.cellI 0 rfl _ (by omega) (by omega) | exact hO0.cellL 0 rfl rfl | exact hO0.cellI 1 rfl _ (by omega) (by omega) | exact hO0.cellL 1 rfl rfl | exact hO0.cellI 2 rfl _ (by omega) (by omega) | exact hO0.cellL 2 rfl rfl | exact hO0.cellI 3 rfl _ (by omega) (by omega) | exact hO0.cellL 3 rfl rfl | exact hO0.cellI 4 rfl _ (by omega) (by omega) | exact hO0.cellL 4 rfl rfl | exact hO0.cellI 5 rfl _ (by omega) (by omega) | exact hO0.cellL 5 rfl rfl)) ?_
  refine rl_v rfl rfl rfl (ov_len rfl Try.underlying22 rfl) ?_
  refine rl_v rfl rfl rfl (ov_assign rfl rfl) ?_
  refine rl_nil ?_
  refine run_seq ?_
  refine run_seq ?_
  refine run_region ?_
  refine rl_v rfl rfl rfl (ov_move rfl rfl) ?_
  refine rl_v rfl rfl rfl (ov_move rfl rfl) ?_
  refine rl_nil ?_
  refine run_block ?_
  refine Run.keep [0, 2, 3, 4, 13, 14] (F' := [(0, _), (2, _), (3, _), (4, _), (13, _), (14, _)]) rfl ?_
  refine run_loop4 (fun (v : Value) (k : Int) (m : Nat) (H : List (Option Blk)) => [(2, v), (3, .int .i64 (sm (fun i => sm (xf n lf i) n) k)), (14, .int .i64 k)]) [0, 4, 13] (fun (v : Value) (k : Int) (m : Nat) (H : List (Option Blk)) (w1 : World) => k = m ∧ k ≤ n ∧ OTab v 23 2 m (fun _ => n) (fun r c => .int .i64 (xf n lf r c)) H ∧ Own w.heap.size w w1 H) (fun (v : Value) (k : Int) (m : Nat) (H : List (Option Blk)) => n - m) (.slice none 0 0) (0) (0) ([none]) ?_ (And.intro rfl (And.intro (by first | with_reducible rfl | exact slot_int rfl (by first | omega) | rfl) (And.intro (by first | with_reducible rfl | exact slot_int rfl (by first | omega) | rfl) (And.intro rfl (And.intro rfl (And.intro rfl trivial)))))) ?_
  · exact ⟨rfl, by omega, OTab.nil _ _ _ _, hO0.nil_cons⟩
  intro v k m H w1 hIw1 ih2
  obtain ⟨hm, hk, hT, hO⟩ := hIw1
  show Run _ _ _ _ [(2, _), (3, _), (14, _), (0, _), (4, _), (13, _)] _ _
  have hrs := hrows_le k (by omega) hk
  refine run_seq ?_
  refine run_region ?_
  refine rl_v rfl rfl rfl (ov_lss rfl rfl rfl) ?_
  refine rl_nil ?_
  refine run_seq ?_
  first | refine run_cond_dec rfl (fun h1 => ?_) (fun h1 => ?_) | refine run_cond rfl (fun h1 => ?_) (fun h1 => ?_)
  · refine run_skip ?_
    refine run_seq ?_
    refine run_block ?_
    refine run_seq ?_
    refine run_region ?_
    refine rl_v rfl rfl rfl (ov_move rfl rfl) ?_
    refine rl_v rfl rfl rfl (ov_assign rfl rfl) ?_
    refine rl_nil ?_
    refine run_seq ?_
    refine run_region ?_
    refine rl_v rfl rfl rfl (ov_move rfl rfl) ?_
    refine rl_ow rfl (ow_make (n) rfl rfl rfl Try.underlying23 info_2 rfl hO rfl rfl (by first | rfl | omega) (by first | rfl | omega) ⟨by omega, by omega⟩) ?_
    rintro _ w3 ⟨br, rfl, hO4, hs5⟩
    refine rl_v rfl rfl rfl (ov_assign rfl rfl) ?_
    refine rl_nil ?_
    refine run_seq ?_
    refine run_seq ?_
    refine run_region ?_
    refine rl_v rfl rfl rfl (ov_move rfl rfl) ?_
    refine rl_v rfl rfl rfl (ov_len rfl Try.underlying23 rfl) ?_
    refine rl_v rfl rfl rfl (ov_move rfl rfl) ?_
    refine rl_nil ?_
    refine run_block ?_
    refine Run.keep [0, 2, 3, 4, 5, 6, 13, 14, 20, 21] (F' := [(0, _), (2, _), (3, _), (4, _), (5, _), (6, _), (13, _), (14, _), (20, _), (21, _)]) rfl ?_
    refine run_loop2 (fun (j : Int) (g : Int → Int) => [(21, .int .i64 j), (3, .int .i64 (sm (fun i => sm (xf n lf i) n) k + sm (xf n lf k) j))]) [0, 2, 4, 5, 6, 13, 14, 20] (fun (j : Int) (g : Int → Int) (w6 : World) => 0 ≤ j ∧ j ≤ n ∧ (∀ c : Int, 0 ≤ c → c < j → g c = xf n lf k c) ∧ Own w.heap.size w w6 (some (vch br 2 n (fun c => .int .i64 (g c))) :: H)) (fun (j : Int) (g : Int → Int) => ((n : Int) - j).toNat) (0) (fun _ => 0) ?_ (And.intro (by first | with_reducible rfl | exact slot_int rfl (by first | omega) | rfl) (And.intro (by first | with_reducible rfl | exact slot_int rfl (by first | omega | (first | (rw [sm_zero, Int.add_zero]; done) | (rw [sm_succ _ hj0, upd_same]; unfold xf; omega) | (rw [sm_succ _ (show 0 ≤ k by omega)]; done))) | rfl) (And.intro rfl (And.intro rfl (And.intro rfl (And.intro rfl (And.intro rfl (And.intro rfl (And.intro rfl (And.intro rfl trivial)))))))))) ?_
    · exact ⟨by omega, by omega, fun c c0 c1 => by omega, hO4⟩
    intro j g w6 hIw6 ih7
    obtain ⟨hj0, hj1, hg, hO2⟩ := hIw6
    show Run _ _ _ _ [(21, _), (3, _), (0, _), (2, _), (4, _), (5, _), (6, _), (13, _), (14, _), (20, _)] _ _
    refine run_seq ?_
    refine run_region ?_
    refine rl_v rfl rfl rfl (ov_lss rfl rfl rfl) ?_
    refine rl_nil ?_
    refine run_seq ?_
    first | refine run_cond_dec rfl (fun h2 => ?_) (fun h2 => ?_) | refine run_cond rfl (fun h2 => ?_) (fun h2 => ?_)
    · have hr1 := hrow_le k (by omega) h1 j hj0 hj1
      have hx1 := hx k j (by omega) h1 hj0 h2
      have hkn := mulb (show 0 ≤ k by omega) (show k ≤ 31 by omega) (show (0 : Int) ≤ n by omega) (show (n : Int) ≤ 32 by omega)
      have hkn2 : k * (n : Int) + j < (n : Int) * n := by
        have : (k + 1) * (n : Int) ≤ (n : Int) * n := Int.mul_le_mul_of_nonneg_right (by omega) (by omega)
        rw [Int.add_mul, Int.one_mul] at this
        omega
      refine run_skip ?_
      refine run_seq ?_
      refine run_block ?_
      refine run_seq ?_
      refine run_region ?_
      refine rl_v rfl rfl rfl (ov_move rfl rfl) ?_
      refine rl_v rfl rfl rfl (ov_assign rfl rfl) ?_
      refine rl_nil ?_
      refine run_seq ?_
      refine run_region ?_
      refine rl_v rfl rfl rfl (ov_move rfl rfl) ?_
      refine rl_v rfl rfl rfl (ov_move rfl rfl) ?_
      refine rl_v rfl rfl rfl (ov_move rfl rfl) ?_
      refine rl_v rfl rfl rfl (ov_nil rfl rfl) ?_
      refine rl_v rfl rfl rfl (ov_fieldS rfl Try.underlying127 rfl (fo := 1) rfl (by kernel_rfl) rfl) ?_
      refine rl_v rfl rfl rfl (ov_load rfl Try.underlying125 rfl rfl (by first | exact hc _ hO2.below rfl | exact hrow _ hO2.below _ (by omega) (by omega) _ (by omega) | exact hO2.cellI 0 rfl _ (by omega) (by omega) | exact hO2.cellL 0 rfl rfl | exact hO2.cellI 1 rfl _ (by omega) (by omega) | exact hO2.cellL 1 rfl rfl | exact hO2.cellI 2 rfl _ (by omega) (by omega) | exact hO2.cellL 2 rfl rfl | exact hO2.cellI 3 rfl _ (by omega) (by omega) | exact hO2.cellL 3 rfl rfl | exact hO2.cellI 4 rfl _ (by omega) (by omega) | exact hO2.cellL 4 rfl rfl | exact hO2.cellI 5 rfl _ (by omega) (by omega) | exact hO2.cellL 5 rfl rfl)) ?_
      refine rl_v rfl rfl rfl (ov_move rfl rfl) ?_
      refine rl_v rfl rfl rfl (ov_move rfl rfl) ?_
      refine rl_v rfl rfl rfl (ov_mul rfl rfl rfl (by omega)) ?_
      refine rl_v rfl rfl rfl (ov_move rfl rfl) ?_
      refine rl_v rfl rfl rfl (ov_add rfl rfl rfl (by omega)) ?_
      refine rl_v rfl rfl rfl (ov_mul rfl rfl rfl (by omega)) ?_
      refine rl_v rfl rfl rfl (ov_add rfl rfl rfl (by omega)) ?_
      refine rl_v rfl rfl rfl (ov_index rfl Try.underlying125 (by kernel_rfl) (s := 4) rfl rfl ⟨by omega, by omega⟩ (by first | rfl | exact hga (by omega))) ?_
      refine rl_v rfl rfl rfl (ov_fieldS rfl Try.underlying129 rfl (fo := 2) rfl (by kernel_rfl) rfl) ?_
      refine rl_v rfl rfl rfl (ov_load rfl Try.underlying2 rfl rfl (by first | exact hc _ hO2.below rfl | exact hrow _ hO2.below _ (by omega) (by omega) _ (by omega) | exact hO2.cellI 0 rfl _ (by omega) (by omega) | exact hO2.cellL 0 rfl rfl | exact hO2.cellI 1 rfl _ (by omega) (by omega) | exact hO2.cellL 1 rfl rfl | exact hO2.cellI 2 rfl _ (by omega) (by omega) | exact hO2.cellL 2 rfl rfl | exact hO2.cellI 3 rfl _ (by omega) (by omega) | exact hO2.cellL 3 rfl rfl | exact hO2.cellI 4 rfl _ (by omega) (by omega) | exact hO2.cellL 4 rfl rfl | exact hO2.cellI 5 rfl _ (by omega) (by omega) | exact hO2.cellL 5 rfl rfl)) ?_
      refine rl_v rfl rfl rfl (ov_index1 rfl Try.underlying23 (by kernel_rfl) rfl rfl ⟨by omega, by omega⟩ (by first | rfl | exact hga (by omega))) ?_
      refine rl_ow rfl (ow_storeI rfl rfl (by kernel_rfl) hO2 0 rfl rfl ⟨by omega, by omega⟩ rfl) ?_
      rintro _ w8 ⟨rfl, hO9, hs10⟩
      refine rl_nil ?_
      refine run_region ?_
      refine rl_v rfl rfl rfl (ov_move rfl rfl) ?_
      refine rl_v rfl rfl rfl (ov_move rfl rfl) ?_
      refine rl_v rfl rfl rfl (ov_move rfl rfl) ?_
      refine rl_v rfl rfl rfl (ov_index1 rfl Try.underlying23 (by kernel_rfl) rfl rfl ⟨by omega, by omega⟩ (by first | rfl | exact hga (by omega))) ?_
      refine rl_v rfl rfl rfl (ov_load rfl Try.underlying2 rfl rfl (by first | exact hc _ hO9.below rfl | exact hrow _ hO9.below _ (by omega) (by omega) _ (by omega) | exact hO9.cellI 0 rfl _ (by omega) (by omega) | exact hO9.cellL 0 rfl rfl | exact hO9.cellI 1 rfl _ (by omega) (by omega) | exact hO9.cellL 1 rfl rfl | exact hO9.cellI 2 rfl _ (by omega) (by omega) | exact hO9.cellL 2 rfl rfl | exact hO9.cellI 3 rfl _ (by omega) (by omega) | exact hO9.cellL 3 rfl rfl | exact hO9.cellI 4 rfl _ (by omega) (by omega) | exact hO9.cellL 4 rfl rfl | exact hO9.cellI 5 rfl _ (by omega) (by omega) | exact hO9.cellL 5 rfl rfl)) ?_
      refine rl_v rfl rfl rfl (ov_add rfl rfl rfl (by rw [upd_same]; show _ ≤ _ + xf n lf k j ∧ _ + xf n lf k j ≤ _; omega)) ?_
      refine rl_v rfl rfl rfl (ov_assign rfl rfl) ?_
      refine rl_nil ?_
      refine run_inBlock ?_
      refine run_region ?_
      refine rl_v rfl rfl rfl (ov_add rfl rfl rfl (by omega)) ?_
      refine rl_v rfl rfl rfl (ov_move rfl rfl) ?_
      refine rl_nil ?_
      refine Run.use (ih7 (j + 1) (upd g j (xf n lf k j)) _ ?_ ?_) (And.intro (by first | with_reducible rfl | exact slot_int rfl (by first | omega) | rfl) (And.intro (by first | with_reducible rfl | exact slot_int rfl (by first | omega | (first | (rw [sm_zero, Int.add_zero]; done) | (rw [sm_succ _ hj0, upd_same]; unfold xf; omega) | (rw [sm_succ _ (show 0 ≤ k by omega)]; done))) | rfl) (And.intro rfl (And.intro rfl (And.intro rfl (And.intro rfl (And.intro rfl (And.intro rfl (And.intro rfl (And.intro rfl trivial))))))))))
      · first | omega | (dsimp only; omega)
      · exact ⟨by omega, by omega, fun c c0 c1 => by unfold upd; split; (rename_i e; rw [e]); exact hg c c0 (by omega), hO9⟩
    · obtain ⟨ao', cap', rfl⟩ := hT.val
      obtain ⟨c0, rv, ch, rfl, hv, h3⟩ := hT
      refine run_exit rfl ?_
      refine run_region ?_
      refine rl_v rfl rfl rfl (ov_move rfl rfl) ?_
      refine rl_v rfl rfl rfl (ov_move rfl rfl) ?_
      refine rl_ow rfl (ow_one rfl rfl rfl Try.underlying22 info_23 rfl hO2 rfl rfl) ?_
      rintro _ w11 ⟨b1, rfl, hO12, hs13⟩
      refine rl_ow rfl (ow_app1 rfl rfl rfl Try.underlying22 info_23 rfl hO12 1 hv rfl rfl rfl rfl ⟨by omega, by omega⟩) ?_
      rintro _ w14 ⟨v6, c6, rfl, hO15, hv6, hs16⟩
      obtain rfl : j = n := by omega
      obtain ⟨H', hT', hO'⟩ := OTab.snoc (L := fun _ => n) (F := fun r c => .int .i64 (xf n lf r c)) (H0 := []) h3 (IRow.made br 2 n (fun c => .int .i64 (g c)) (by omega)) hv6 (by simpa using hO15) rfl (fun i i0 i1 => by rw [← hm, hg i i0 i1])
      refine rl_v rfl rfl rfl (ov_assign rfl rfl) ?_
      refine rl_nil ?_
      refine run_inBlock ?_
      refine run_region ?_
      refine rl_v rfl rfl rfl (ov_add rfl rfl rfl (by omega)) ?_
      refine rl_v rfl rfl rfl (ov_move rfl rfl) ?_
      refine rl_nil ?_
      refine Run.use (ih2 _ (k + 1) (m + 1) (H') _ ?_ ?_) (And.intro rfl (And.intro (by first | with_reducible rfl | exact slot_int rfl (by first | omega | (first | (rw [sm_zero, Int.add_zero]; done) | (rw [sm_succ _ hj0, upd_same]; unfold xf; omega) | (rw [sm_succ _ (show 0 ≤ k by omega)]; done))) | rfl) (And.intro (by first | with_reducible rfl | exact slot_int rfl (by first | omega) | rfl) (And.intro rfl (And.intro rfl (And.intro rfl trivial))))))
      · first | omega | (dsimp only; omega)
      · exact ⟨by omega, by omega, hT', by simpa using hO'⟩
  · obtain rfl : m = n := by omega
    refine run_exit rfl ?_
    refine run_seq ?_
    refine run_region ?_
    refine rl_v rfl rfl rfl (ov_move rfl rfl) ?_
    refine rl_v rfl rfl rfl (ov_move rfl rfl) ?_
    refine rl_v rfl rfl rfl (ov_assign rfl rfl) ?_
    refine rl_v rfl rfl rfl (ov_assign rfl rfl) ?_
    refine rl_nil ?_
    refine run_ret Try.func61 (res2 Try.results61 rfl rfl) ?_
    exact ⟨v, H, by rw [hm]; rfl, hT, hO⟩

theorem alf_flow {n : Nat} {D : Int → Int → Int} (hD : ∀ i j, 0 ≤ D i j) : Flow n D (alf n D) := by
  have h0 : ∀ i j : Int, xf n (alf n D) i j = 0 := fun i j => by
    unfold xf alf
    rw [if_neg (by have := even_half (i * n + j); omega)]
  refine ⟨fun e _ _ => ?_, fun i j i0 i1 j0 j1 => ?_, fun v _ _ => ?_⟩
  · unfold alf; split
    · exact hD _ _
    · exact Int.le_refl _
  · obtain ⟨d1, d2⟩ := pair_div (i := i) j0 j1
    obtain ⟨g1, g2, g3, g4⟩ := even_half (i * n + j)
    unfold alf
    rw [if_pos g1, if_neg (by omega), g2, d1, d2, Int.add_zero]
  · unfold outs ins
    rw [sm_congr (g := fun _ => 0) (fun i _ _ => h0 v i), sm_congr (g := fun _ => 0) (fun i _ _ => h0 i v)]

theorem cancel_any (ao : Option Addr) (n c : Nat) (D : Int → Int → Int) (w : World) (hv : Valid n D) (h : ITab w.heap.size w ao n (fun _ => n) (fun r c => .int .i64 (D r c))) :
    Calls Try.prog 14 #[.slice ao n c] w fun e w' =>
      ∃ (v : Value) (x : Int → Int → Int) (H : List (Option Blk)) (rk : Int → Int), e = .returned (.tuple #[v, .int .i64 (total n x), .int .i64 0]) ∧ OTab v 23 2 n (fun _ => n) (fun r c => .int .i64 (x r c)) H ∧ Own w.heap.size w w' H ∧
        Circ n D x ∧ (∀ i, 0 ≤ rk i ∧ rk i ≤ 100000) ∧ bnd n D rk = total n x := by
  have hpos := hv.pos
  have hle := hv.le
  have hM : ((2 * (n * n) : Nat) : Int) = 2 * ((n : Int) * n) := by simp
  have hM' : ((2 * (n * n) : Nat) : Int) = 2 * ((n : Int) * n) := hM
  refine calls_of_run (F := [(0, _)]) Try.func14 rfl Try.ntmps14 rfl rfl ?_
  have hO0 := Own.init w
  refine run_seq ?_
  refine run_region ?_
  refine rl_v rfl rfl rfl (ov_assign rfl rfl) ?_
  refine rl_v rfl rfl rfl (ov_assign rfl rfl) ?_
  refine rl_v rfl rfl rfl (ov_assign rfl rfl) ?_
  refine rl_nil ?_
  refine run_seq ?_
  refine run_seq ?_
  refine run_region ?_
  refine rl_v rfl rfl rfl (ov_move rfl rfl) ?_
  refine rl_call callable_58 rfl rfl rfl rfl rfl rfl (check_any ao n c (fun _ => n) D _ (by omega) h) (fun e1 w2 hp3 => ?_)
  obtain ⟨rfl, hb⟩ := hp3
  refine ⟨_, rfl, ?_⟩
  have hO4 := hO0.past hb
  rw [hv.chk]
  refine rl_v rfl rfl rfl (ov_assign rfl rfl) ?_
  refine rl_nil ?_
  refine run_seq ?_
  refine run_region ?_
  refine rl_v rfl rfl rfl (ov_move rfl rfl) ?_
  refine rl_v rfl rfl rfl (ov_neq rfl rfl rfl) ?_
  refine rl_nil ?_
  first | refine run_cond_dec rfl (fun h1 => ?_) (fun h1 => ?_) | refine run_cond rfl (fun h1 => ?_) (fun h1 => ?_)
  · exfalso; exact h1 rfl
  · refine run_skip ?_
    refine run_seq ?_
    refine run_region ?_
    refine rl_v rfl rfl rfl (ov_move rfl rfl) ?_
    refine rl_call callable_59 rfl rfl rfl rfl rfl rfl (newCircle_any ao n c D _ hle (h.later hO4.below)) (fun e5 w6 hp7 => ?_)
    obtain ⟨b, v1, c1, rfl, hO1, hR⟩ := hp7
    refine ⟨_, rfl, ?_⟩
    have hO8 := hO4.join hO1
    obtain ⟨aa, ca, rfl⟩ := hR.val
    refine rl_v rfl rfl rfl (ov_assign rfl rfl) ?_
    refine rl_nil ?_
    refine run_seq ?_
    refine run_region ?_
    refine rl_v rfl rfl rfl (ov_move rfl rfl) ?_
    refine rl_call callable_60 rfl rfl rfl rfl rfl rfl (fill_any _ _ _ [] b n c (2 * (n * n)) ca ao aa c1 D (alf n D) hpos hle hM hv.hi hO8 hR (alf_flow hv.lo)) (fun e9 w10 hp11 => ?_)
    obtain ⟨bh, hh, lf, c2, rfl, hO2, hR2, hF, hhb, hcalm, _⟩ := hp11
    refine ⟨_, rfl, ?_⟩
    refine rl_nil ?_
    refine run_seq ?_
    refine run_region ?_
    refine rl_v rfl rfl rfl (ov_move rfl rfl) ?_
    refine rl_call callable_61 rfl rfl rfl rfl rfl rfl (cancelled_any b n c (2 * (n * n)) ca ao aa D lf _ hpos hle hM hv.hi hF (hO2.readsL 1 rfl) (hR2.reads hO2 2 rfl)) (fun e12 w13 hp14 => ?_)
    obtain ⟨v3, H3, rfl, hT3, hO3⟩ := hp14
    refine ⟨_, rfl, ?_⟩
    have hO15 := hO2.join hO3
    refine rl_v rfl rfl rfl (ov_move rfl rfl) ?_
    refine rl_v rfl rfl rfl (ov_extract rfl rfl (by rfl)) ?_
    refine rl_v rfl rfl rfl (ov_extract rfl rfl (by rfl)) ?_
    refine rl_v rfl rfl rfl (ov_assign rfl rfl) ?_
    refine rl_v rfl rfl rfl (ov_assign rfl rfl) ?_
    refine rl_nil ?_
    refine run_seq ?_
    refine run_region ?_
    refine rl_v rfl rfl rfl (ov_move rfl rfl) ?_
    refine rl_v rfl rfl rfl (ov_move rfl rfl) ?_
    refine rl_v rfl rfl rfl (ov_assign rfl rfl) ?_
    refine rl_v rfl rfl rfl (ov_assign rfl rfl) ?_
    refine rl_v rfl rfl rfl (ov_assign rfl rfl) ?_
    refine rl_nil ?_
    refine run_ret Try.func14 (res3 Try.results14 rfl rfl rfl) ?_
    exact ⟨v3, xf n lf, H3, hh, rfl, hT3, hO15.sub (List.sublist_append_left _ _), hF.circ, hhb, hF.strong (fun e e0 e1 => hcalm e e0 (by omega))⟩

theorem boundTells : Tells 63 #[] (fun x => decide (x < -1000 ∨ 1000 < x)) := by
  intro x w
  refine calls_of_run (F := [(0, _)]) Try.func63 rfl Try.ntmps63 rfl rfl ?_
  have hO0 := Own.init w
  refine run_seq ?_
  refine run_region ?_
  refine rl_v rfl rfl rfl (ov_assign rfl rfl) ?_
  refine rl_nil ?_
  refine run_seq ?_
  refine run_region ?_
  refine rl_v rfl rfl rfl (ov_move rfl rfl) ?_
  refine rl_v rfl rfl rfl (ov_lss rfl rfl rfl) ?_
  refine rl_v rfl rfl rfl (ov_move rfl rfl) ?_
  first | refine rl_split_dec 5 rfl (fun hg => ?_) (fun hg => ?_) | refine rl_split 5 rfl (fun hg => ?_) (fun hg => ?_)
  · refine rl_gskip rfl rfl rfl rfl rfl rfl ?_
    refine rl_gskip rfl rfl rfl rfl rfl rfl ?_
    refine rl_v rfl rfl rfl (ov_pick_t rfl rfl rfl) ?_
    refine rl_v rfl rfl rfl (ov_assign rfl rfl) ?_
    refine rl_nil ?_
    refine run_ret Try.func63 (res1 Try.results63 rfl) ?_
    exact ⟨by congr 2; exact (decide_eq_true (p := x < -1000 ∨ 1000 < x) (.inl hg)).symm, hO0.below⟩
  · refine rl_gv rfl rfl rfl rfl rfl (ov_move rfl rfl) ?_
    refine rl_gv rfl rfl rfl rfl rfl (ov_gtr rfl rfl rfl) ?_
    refine rl_v rfl rfl rfl (ov_pick_f rfl rfl rfl) ?_
    refine rl_v rfl rfl rfl (ov_assign rfl rfl) ?_
    refine rl_nil ?_
    refine run_ret Try.func63 (res1 Try.results63 rfl) ?_
    exact ⟨by congr 2; exact decide_eq_decide.2 ⟨fun h => .inr h, fun h => h.resolve_left hg⟩, hO0.below⟩

theorem bound_any (ao bo : Option Addr) (n c m cb : Nat) (D : Int → Int → Int) (rk : Int → Int) (w : World) (hv : Valid n D) (hm : m ≤ 1000)
    (h : ITab w.heap.size w ao n (fun _ => n) (fun r c => .int .i64 (D r c))) (h2 : IAt w.heap.size w bo m (fun i => .int .i64 (rk i))) :
    Calls Try.prog 15 #[.slice ao n c, .slice bo m cb] w fun e w' =>
      (m ≠ n ∧ e = .returned (.tuple #[.int .i64 0, .int .i64 7]) ∨ m = n ∧ (∃ i : Int, 0 ≤ i ∧ i < n ∧ (rk i < -1000 ∨ 1000 < rk i)) ∧ e = .returned (.tuple #[.int .i64 0, .int .i64 1]) ∨
        m = n ∧ (∀ i : Int, 0 ≤ i → i < n → -1000 ≤ rk i ∧ rk i ≤ 1000) ∧ e = .returned (.tuple #[.int .i64 (bnd n D rk), .int .i64 0])) ∧ Below w.heap.size w w' := by
  obtain ⟨A, C, RB, RO, gb, go, hga, hrow, hra, hel, _⟩ := h.open
  obtain ⟨qb, qo, hqa, hq⟩ := h2.open
  have hle := hv.le
  refine calls_of_run (F := [(0, _), (1, _)]) Try.func15 rfl Try.ntmps15 rfl rfl ?_
  have hO0 := Own.init w
  refine run_seq ?_
  refine run_region ?_
  refine rl_v rfl rfl rfl (ov_assign rfl rfl) ?_
  refine rl_v rfl rfl rfl (ov_assign rfl rfl) ?_
  refine rl_nil ?_
  refine run_seq ?_
  refine run_seq ?_
  refine run_region ?_
  refine rl_v rfl rfl rfl (ov_move rfl rfl) ?_
  refine rl_call callable_58 rfl rfl rfl rfl rfl rfl (check_any ao n c (fun _ => n) D _ (by omega) h) (fun e1 w2 hp3 => ?_)
  obtain ⟨rfl, hb⟩ := hp3
  refine ⟨_, rfl, ?_⟩
  have hO4 := hO0.past hb
  rw [hv.chk]
  refine rl_v rfl rfl rfl (ov_assign rfl rfl) ?_
  refine rl_nil ?_
  refine run_seq ?_
  refine run_region ?_
  refine rl_v rfl rfl rfl (ov_move rfl rfl) ?_
  refine rl_v rfl rfl rfl (ov_neq rfl rfl rfl) ?_
  refine rl_nil ?_
  first | refine run_cond_dec rfl (fun h1 => ?_) (fun h1 => ?_) | refine run_cond rfl (fun h1 => ?_) (fun h1 => ?_)
  · exfalso; exact h1 rfl
  · refine run_skip ?_
    refine run_seq ?_
    refine run_seq ?_
    refine run_region ?_
    refine rl_v rfl rfl rfl (ov_move rfl rfl) ?_
    refine rl_v rfl rfl rfl (ov_len rfl Try.underlying23 rfl) ?_
    refine rl_v rfl rfl rfl (ov_move rfl rfl) ?_
    refine rl_v rfl rfl rfl (ov_len rfl Try.underlying22 rfl) ?_
    refine rl_v rfl rfl rfl (ov_neq rfl rfl rfl) ?_
    refine rl_nil ?_
    first | refine run_cond_dec rfl (fun h3 => ?_) (fun h3 => ?_) | refine run_cond rfl (fun h3 => ?_) (fun h3 => ?_)
    · refine run_seq ?_
      refine run_region ?_
      refine rl_v rfl rfl rfl (ov_assign rfl rfl) ?_
      refine rl_v rfl rfl rfl (ov_assign rfl rfl) ?_
      refine rl_nil ?_
      refine run_ret Try.func15 (res2 Try.results15 rfl rfl) ?_
      exact ⟨.inl ⟨by omega, rfl⟩, hO4.below⟩
    · refine run_skip ?_
      refine run_seq ?_
      refine run_seq ?_
      refine run_region ?_
      refine rl_v rfl rfl rfl (ov_move rfl rfl) ?_
      refine rl_call callable_62 rfl rfl rfl rfl rfl rfl (containsFunc_any bo m cb rk _ #[] _ _ callable_63 boundTells (h2.later hO4.below) (by omega)) (fun e5 w6 hp7 => ?_)
      obtain ⟨bb, rfl, hbb, hb2⟩ := hp7
      refine ⟨_, rfl, ?_⟩
      have hO8 := hO4.past hb2
      refine rl_nil ?_
      first | refine run_cond_dec rfl (fun h4 => ?_) (fun h4 => ?_) | refine run_cond rfl (fun h4 => ?_) (fun h4 => ?_)
      · refine run_seq ?_
        refine run_region ?_
        refine rl_v rfl rfl rfl (ov_assign rfl rfl) ?_
        refine rl_v rfl rfl rfl (ov_assign rfl rfl) ?_
        refine rl_nil ?_
        refine run_ret Try.func15 (res2 Try.results15 rfl rfl) ?_
        exact ⟨.inr (.inl ⟨by omega, by obtain ⟨i, a, b, e⟩ := hbb.1 h4; exact ⟨i, a, by omega, by simpa using e⟩, rfl⟩), hO8.below⟩
      · obtain rfl : m = n := by omega
        have hr : ∀ i : Int, 0 ≤ i → i < m → -1000 ≤ rk i ∧ rk i ≤ 1000 := fun i i0 i1 => by
          by_cases hx : rk i < -1000 ∨ 1000 < rk i
          · exact absurd (hbb.2 ⟨i, i0, i1, by simpa using hx⟩) (by simp [h4])
          · omega
        refine run_skip ?_
        refine run_seq ?_
        refine run_region ?_
        refine rl_v rfl rfl rfl (ov_assign rfl rfl) ?_
        refine rl_nil ?_
        refine run_seq ?_
        refine run_seq ?_
        refine run_region ?_
        refine rl_v rfl rfl rfl (ov_move rfl rfl) ?_
        refine rl_v rfl rfl rfl (ov_len rfl Try.underlying22 rfl) ?_
        refine rl_v rfl rfl rfl (ov_move rfl rfl) ?_
        refine rl_nil ?_
        refine run_block ?_
        refine Run.keep [1, 7, 24, 25, 26] (F' := [(1, _), (7, _), (24, _), (25, _), (26, _)]) rfl ?_
        refine run_loop1 (fun (k : Int) => [(26, .int .i64 k), (7, .int .i64 (sm (fun r => sm (term D rk r) m) k))]) [1, 24, 25] (fun (k : Int) (w9 : World) => 0 ≤ k ∧ k ≤ m ∧ Own w.heap.size w w9 []) (fun (k : Int) => ((m : Int) - k).toNat) (0) ?_ (And.intro (by first | with_reducible rfl | exact slot_int rfl (by first | omega) | rfl) (And.intro (by first | with_reducible rfl | exact slot_int rfl (by first | omega | (first | (rw [sm_zero]; done) | (rw [sm_zero, Int.add_zero]; done) | (rw [sm_succ _ hj0]; unfold term; omega) | (rw [sm_succ _ hk0, show j = (m : Int) by omega]; done))) | rfl) (And.intro rfl (And.intro rfl (And.intro rfl trivial))))) ?_
        · exact ⟨by omega, by omega, hO8⟩
        intro k w9 hIw9 ih10
        obtain ⟨hk0, hk1, hO⟩ := hIw9
        show Run _ _ _ _ [(26, _), (7, _), (1, _), (24, _), (25, _)] _ _
        have hb1 := rows_le hv hr k hk0 hk1
        refine run_seq ?_
        refine run_region ?_
        refine rl_v rfl rfl rfl (ov_lss rfl rfl rfl) ?_
        refine rl_nil ?_
        refine run_seq ?_
        first | refine run_cond_dec rfl (fun h5 => ?_) (fun h5 => ?_) | refine run_cond rfl (fun h5 => ?_) (fun h5 => ?_)
        · refine run_skip ?_
          refine run_seq ?_
          refine run_block ?_
          refine run_seq ?_
          refine run_region ?_
          refine rl_v rfl rfl rfl (ov_move rfl rfl) ?_
          refine rl_v rfl rfl rfl (ov_index1 rfl Try.underlying22 (by kernel_rfl) rfl rfl ⟨by omega, by omega⟩ (by first | rfl | exact hga (by omega) | exact hra _ (by omega) (by omega) (by omega) | exact hqa (by omega))) ?_
          refine rl_v rfl rfl rfl (ov_load rfl Try.underlying23 rfl rfl (by first | exact hrow _ hO.below _ (by omega) (by omega) | exact hel _ hO.below _ (by omega) (by omega) _ (by omega) (by omega) | exact hq _ hO.below _ (by omega) (by omega) | exact hO.cellI 0 rfl _ (by omega) (by omega) | exact hO.cellL 0 rfl rfl | exact hO.cellI 1 rfl _ (by omega) (by omega) | exact hO.cellL 1 rfl rfl | exact hO.cellI 2 rfl _ (by omega) (by omega) | exact hO.cellL 2 rfl rfl | exact hO.cellI 3 rfl _ (by omega) (by omega) | exact hO.cellL 3 rfl rfl | exact hO.cellI 4 rfl _ (by omega) (by omega) | exact hO.cellL 4 rfl rfl | exact hO.cellI 5 rfl _ (by omega) (by omega) | exact hO.cellL 5 rfl rfl)) ?_
          refine rl_v rfl rfl rfl (ov_assign rfl rfl) ?_
          refine rl_v rfl rfl rfl (ov_assign rfl rfl) ?_
          refine rl_nil ?_
          refine run_seq ?_
          refine run_region ?_
          refine rl_v rfl rfl rfl (ov_move rfl rfl) ?_
          refine rl_v rfl rfl rfl (ov_len rfl Try.underlying23 rfl) ?_
          refine rl_v rfl rfl rfl (ov_move rfl rfl) ?_
          refine rl_nil ?_
          refine run_block ?_
          refine Run.keep [1, 7, 8, 24, 25, 26, 31, 32, 33] (F' := [(1, _), (7, _), (8, _), (24, _), (25, _), (26, _), (31, _), (32, _), (33, _)]) rfl ?_
          refine run_loop1 (fun (j : Int) => [(33, .int .i64 j), (7, .int .i64 (sm (fun r => sm (term D rk r) m) k + sm (term D rk k) j))]) [1, 8, 24, 25, 26, 31, 32] (fun (j : Int) (w11 : World) => 0 ≤ j ∧ j ≤ m ∧ Own w.heap.size w w11 []) (fun (j : Int) => ((m : Int) - j).toNat) (0) ?_ (And.intro (by first | with_reducible rfl | exact slot_int rfl (by first | omega) | rfl) (And.intro (by first | with_reducible rfl | exact slot_int rfl (by first | omega | (first | (rw [sm_zero]; done) | (rw [sm_zero, Int.add_zero]; done) | (rw [sm_succ _ hj0]; unfold term; omega) | (rw [sm_succ _ hk0, show j = (m : Int) by omega]; done))) | rfl) (And.intro rfl (And.intro rfl (And.intro rfl (And.intro rfl (And.intro rfl (And.intro rfl (And.intro rfl trivial))))))))) ?_
          · exact ⟨by omega, by omega, hO⟩
          intro j w11 hIw11 ih12
          obtain ⟨hj0, hj1, hO2⟩ := hIw11
          show Run _ _ _ _ [(33, _), (7, _), (1, _), (8, _), (24, _), (25, _), (26, _), (31, _), (32, _)] _ _
          have hb2 := row_le hv hr k hk0 h5 j hj0 hj1
          refine run_seq ?_
          refine run_region ?_
          refine rl_v rfl rfl rfl (ov_lss rfl rfl rfl) ?_
          refine rl_nil ?_
          refine run_seq ?_
          first | refine run_cond_dec rfl (fun h6 => ?_) (fun h6 => ?_) | refine run_cond rfl (fun h6 => ?_) (fun h6 => ?_)
          · have hb3 := term_le hv k j (hr k hk0 h5) (hr j hj0 h6)
            have hb4 := hr k hk0 h5
            have hb5 := hr j hj0 h6
            refine run_skip ?_
            refine run_seq ?_
            refine run_block ?_
            refine run_seq ?_
            refine run_region ?_
            refine rl_v rfl rfl rfl (ov_move rfl rfl) ?_
            refine rl_v rfl rfl rfl (ov_index1 rfl Try.underlying23 (by kernel_rfl) rfl rfl ⟨by omega, by omega⟩ (by first | rfl | exact hga (by omega) | exact hra _ (by omega) (by omega) (by omega) | exact hqa (by omega))) ?_
            refine rl_v rfl rfl rfl (ov_load rfl Try.underlying2 rfl rfl (by first | exact hrow _ hO2.below _ (by omega) (by omega) | exact hel _ hO2.below _ (by omega) (by omega) _ (by omega) (by omega) | exact hq _ hO2.below _ (by omega) (by omega) | exact hO2.cellI 0 rfl _ (by omega) (by omega) | exact hO2.cellL 0 rfl rfl | exact hO2.cellI 1 rfl _ (by omega) (by omega) | exact hO2.cellL 1 rfl rfl | exact hO2.cellI 2 rfl _ (by omega) (by omega) | exact hO2.cellL 2 rfl rfl | exact hO2.cellI 3 rfl _ (by omega) (by omega) | exact hO2.cellL 3 rfl rfl | exact hO2.cellI 4 rfl _ (by omega) (by omega) | exact hO2.cellL 4 rfl rfl | exact hO2.cellI 5 rfl _ (by omega) (by omega) | exact hO2.cellL 5 rfl rfl)) ?_
            refine rl_v rfl rfl rfl (ov_assign rfl rfl) ?_
            refine rl_v rfl rfl rfl (ov_assign rfl rfl) ?_
            refine rl_nil ?_
            refine run_quiet mixed (by kernel_rfl) ?_
            refine rq_v rfl rfl rfl (fun _ => ov_move rfl rfl) ?_
            refine rq_v rfl rfl rfl (fun _ => ov_move rfl rfl) ?_
            refine rq_v rfl rfl rfl (fun _ => ov_move rfl rfl) ?_
            refine rq_v rfl rfl rfl (fun _ => ov_move rfl rfl) ?_
            refine rq_v rfl rfl rfl (fun _ => ov_index1 rfl Try.underlying23 (by kernel_rfl) rfl rfl ⟨by omega, by omega⟩ (by first | rfl | exact hga (by omega) | exact hra _ (by omega) (by omega) (by omega) | exact hqa (by omega))) ?_
            refine rq_v rfl rfl rfl (fun _ => ov_load rfl Try.underlying2 rfl rfl (by show World.cell? w11 _ = _; first | exact hrow _ hO2.below _ (by omega) (by omega) | exact hel _ hO2.below _ (by omega) (by omega) _ (by omega) (by omega) | exact hq _ hO2.below _ (by omega) (by omega) | exact hO2.cellI 0 rfl _ (by omega) (by omega) | exact hO2.cellL 0 rfl rfl | exact hO2.cellI 1 rfl _ (by omega) (by omega) | exact hO2.cellL 1 rfl rfl | exact hO2.cellI 2 rfl _ (by omega) (by omega) | exact hO2.cellL 2 rfl rfl | exact hO2.cellI 3 rfl _ (by omega) (by omega) | exact hO2.cellL 3 rfl rfl | exact hO2.cellI 4 rfl _ (by omega) (by omega) | exact hO2.cellL 4 rfl rfl | exact hO2.cellI 5 rfl _ (by omega) (by omega) | exact hO2.cellL 5 rfl rfl)) ?_
            refine rq_v rfl rfl rfl (fun _ => ov_add rfl rfl rfl (by omega)) ?_
            refine rq_v rfl rfl rfl (fun _ => ov_move rfl rfl) ?_
            refine rq_v rfl rfl rfl (fun _ => ov_move rfl rfl) ?_
            refine rq_v rfl rfl rfl (fun _ => ov_index1 rfl Try.underlying23 (by kernel_rfl) rfl rfl ⟨by omega, by omega⟩ (by first | rfl | exact hga (by omega) | exact hra _ (by omega) (by omega) (by omega) | exact hqa (by omega))) ?_
            refine rq_v rfl rfl rfl (fun _ => ov_load rfl Try.underlying2 rfl rfl (by show World.cell? w11 _ = _; first | exact hrow _ hO2.below _ (by omega) (by omega) | exact hel _ hO2.below _ (by omega) (by omega) _ (by omega) (by omega) | exact hq _ hO2.below _ (by omega) (by omega) | exact hO2.cellI 0 rfl _ (by omega) (by omega) | exact hO2.cellL 0 rfl rfl | exact hO2.cellI 1 rfl _ (by omega) (by omega) | exact hO2.cellL 1 rfl rfl | exact hO2.cellI 2 rfl _ (by omega) (by omega) | exact hO2.cellL 2 rfl rfl | exact hO2.cellI 3 rfl _ (by omega) (by omega) | exact hO2.cellL 3 rfl rfl | exact hO2.cellI 4 rfl _ (by omega) (by omega) | exact hO2.cellL 4 rfl rfl | exact hO2.cellI 5 rfl _ (by omega) (by omega) | exact hO2.cellL 5 rfl rfl)) ?_
            refine rq_v rfl rfl rfl (fun _ => ov_sub rfl rfl rfl (by omega)) ?_
            refine rq_v rfl rfl rfl (fun _ => ov_max rfl rfl rfl) ?_
            refine rq_v rfl rfl rfl (fun _ => ov_mul rfl rfl rfl (by unfold term at hb3; omega)) ?_
            refine rq_v rfl rfl rfl (fun _ => ov_add rfl rfl rfl (by unfold term at hb3; omega)) ?_
            refine rq_v rfl rfl rfl (fun _ => ov_assign rfl rfl) ?_
            refine rq_nil (fun n13 => ?_)
            have hO15 := hO2.drewN n13
            generalize World.drewN w11 n13 = w14 at hO15 ⊢
            refine run_inBlock ?_
            refine run_region ?_
            refine rl_v rfl rfl rfl (ov_add rfl rfl rfl (by omega)) ?_
            refine rl_v rfl rfl rfl (ov_move rfl rfl) ?_
            refine rl_nil ?_
            refine Run.use (ih12 _ _ ?_ ?_) (And.intro (by first | with_reducible rfl | exact slot_int rfl (by first | omega) | rfl) (And.intro (by first | with_reducible rfl | exact slot_int rfl (by first | omega | (first | (rw [sm_zero]; done) | (rw [sm_zero, Int.add_zero]; done) | (rw [sm_succ _ hj0]; unfold term; omega) | (rw [sm_succ _ hk0, show j = (m : Int) by omega]; done))) | rfl) (And.intro rfl (And.intro rfl (And.intro rfl (And.intro rfl (And.intro rfl (And.intro rfl (And.intro rfl trivial)))))))))
            · first | omega | (dsimp only; omega)
            · exact ⟨by omega, by omega, hO15⟩
          · refine run_exit rfl ?_
            refine run_inBlock ?_
            refine run_region ?_
            refine rl_v rfl rfl rfl (ov_add rfl rfl rfl (by omega)) ?_
            refine rl_v rfl rfl rfl (ov_move rfl rfl) ?_
            refine rl_nil ?_
            refine Run.use (ih10 _ _ ?_ ?_) (And.intro (by first | with_reducible rfl | exact slot_int rfl (by first | omega) | rfl) (And.intro (by first | with_reducible rfl | exact slot_int rfl (by first | omega | (first | (rw [sm_zero]; done) | (rw [sm_zero, Int.add_zero]; done) | (rw [sm_succ _ hj0]; unfold term; omega) | (rw [sm_succ _ hk0, show j = (m : Int) by omega]; done))) | rfl) (And.intro rfl (And.intro rfl (And.intro rfl trivial)))))
            · first | omega | (dsimp only; omega)
            · exact ⟨by omega, by omega, hO2⟩
        · refine run_exit rfl ?_
          refine run_seq ?_
          refine run_region ?_
          refine rl_v rfl rfl rfl (ov_move rfl rfl) ?_
          refine rl_v rfl rfl rfl (ov_assign rfl rfl) ?_
          refine rl_v rfl rfl rfl (ov_assign rfl rfl) ?_
          refine rl_nil ?_
          refine run_ret Try.func15 (res2 Try.results15 rfl rfl) ?_
          exact ⟨.inr (.inr ⟨rfl, hr, by rw [show k = (m : Int) by omega]; rfl⟩), hO.below⟩

theorem ranked_any (ao bo : Option Addr) (n c m cb : Nat) (lo hi : Int) (rk : Int → Int) (w : World) (h2 : IAt w.heap.size w bo m (fun i => .int .i64 (rk i))) (hm : m ≤ 1000) :
    Calls Try.prog 16 #[.slice ao n c, .slice bo m cb, .int .i64 lo, .int .i64 hi] w fun e w' =>
      (∃ bb : Bool, e = .returned (.bool bb) ∧ (bb = true ↔ m = n ∧ ∀ i : Int, 0 ≤ i → i < m → lo ≤ rk i ∧ rk i ≤ hi)) ∧ Below w.heap.size w w' := by
  obtain ⟨qb, qo, hqa, hq⟩ := h2.open
  refine calls_of_run (F := [(0, _), (1, _), (2, _), (3, _)]) Try.func16 rfl Try.ntmps16 rfl rfl ?_
  have hO0 := Own.init w
  refine run_seq ?_
  refine run_region ?_
  refine rl_v rfl rfl rfl (ov_assign rfl rfl) ?_
  refine rl_nil ?_
  refine run_seq ?_
  refine run_seq ?_
  refine run_region ?_
  refine rl_v rfl rfl rfl (ov_move rfl rfl) ?_
  refine rl_v rfl rfl rfl (ov_len rfl Try.underlying23 rfl) ?_
  refine rl_v rfl rfl rfl (ov_move rfl rfl) ?_
  refine rl_v rfl rfl rfl (ov_len rfl Try.underlying22 rfl) ?_
  refine rl_v rfl rfl rfl (ov_neq rfl rfl rfl) ?_
  refine rl_nil ?_
  first | refine run_cond_dec rfl (fun h1 => ?_) (fun h1 => ?_) | refine run_cond rfl (fun h1 => ?_) (fun h1 => ?_)
  · refine run_seq ?_
    refine run_region ?_
    refine rl_v rfl rfl rfl (ov_assign rfl rfl) ?_
    refine rl_nil ?_
    refine run_ret Try.func16 (res1 Try.results16 rfl) ?_
    exact ⟨⟨_, rfl, fun h => (by cases h), fun h => by omega⟩, hO0.below⟩
  · refine run_skip ?_
    refine run_seq ?_
    refine run_seq ?_
    refine run_region ?_
    refine rl_v rfl rfl rfl (ov_assign rfl rfl) ?_
    refine rl_nil ?_
    refine run_block ?_
    refine Run.keep [1, 2, 3, 9] (F' := [(1, _), (2, _), (3, _), (9, _)]) rfl ?_
    refine run_loop1 (fun (k : Int) => [(9, .int .i64 k)]) [1, 2, 3] (fun (k : Int) (w1 : World) => 0 ≤ k ∧ k ≤ m ∧ (∀ i : Int, 0 ≤ i → i < k → lo ≤ rk i ∧ rk i ≤ hi) ∧ Own w.heap.size w w1 []) (fun (k : Int) => ((m : Int) - k).toNat) (0) ?_ (And.intro (by first | with_reducible rfl | exact slot_int rfl (by first | omega) | rfl) (And.intro rfl (And.intro rfl (And.intro rfl trivial)))) ?_
    · exact ⟨by omega, by omega, fun i a b => by omega, hO0⟩
    intro k w1 hIw1 ih2
    obtain ⟨hk0, hk1, hall, hO⟩ := hIw1
    show Run _ _ _ _ [(9, _), (1, _), (2, _), (3, _)] _ _
    refine run_seq ?_
    refine run_seq ?_
    refine run_region ?_
    refine rl_v rfl rfl rfl (ov_move rfl rfl) ?_
    refine rl_v rfl rfl rfl (ov_move rfl rfl) ?_
    refine rl_v rfl rfl rfl (ov_len rfl Try.underlying23 rfl) ?_
    refine rl_v rfl rfl rfl (ov_lss rfl rfl rfl) ?_
    refine rl_nil ?_
    first | refine run_cond_dec rfl (fun h2 => ?_) (fun h2 => ?_) | refine run_cond rfl (fun h2 => ?_) (fun h2 => ?_)
    · refine run_skip ?_
      refine run_seq ?_
      refine run_block ?_
      refine run_seq ?_
      refine run_region_join 34 (.bool (decide (rk k < lo ∨ hi < rk k))) [1, 2, 3, 9] (fun hk3 => ?_) ?_
      · refine rl_v rfl rfl rfl (ov_move rfl rfl) ?_
        refine rl_v rfl rfl rfl (ov_move rfl rfl) ?_
        refine rl_v rfl rfl rfl (ov_index1 rfl Try.underlying23 (by kernel_rfl) rfl rfl ⟨by omega, by omega⟩ (by first | rfl | exact hqa (by omega))) ?_
        refine rl_v rfl rfl rfl (ov_load rfl Try.underlying2 rfl rfl (by first | exact hq _ hO.below _ (by omega) (by omega) | exact hO.cellI 0 rfl _ (by omega) (by omega) | exact hO.cellL 0 rfl rfl | exact hO.cellI 1 rfl _ (by omega) (by omega) | exact hO.cellL 1 rfl rfl | exact hO.cellI 2 rfl _ (by omega) (by omega) | exact hO.cellL 2 rfl rfl | exact hO.cellI 3 rfl _ (by omega) (by omega) | exact hO.cellL 3 rfl rfl | exact hO.cellI 4 rfl _ (by omega) (by omega) | exact hO.cellL 4 rfl rfl | exact hO.cellI 5 rfl _ (by omega) (by omega) | exact hO.cellL 5 rfl rfl)) ?_
        refine rl_v rfl rfl rfl (ov_move rfl rfl) ?_
        refine rl_v rfl rfl rfl (ov_lss rfl rfl rfl) ?_
        refine rl_v rfl rfl rfl (ov_move rfl rfl) ?_
        first | refine rl_split_dec 27 rfl (fun hg4 => ?_) (fun hg4 => ?_) | refine rl_split 27 rfl (fun hg4 => ?_) (fun hg4 => ?_)
        · refine rl_gskip rfl rfl rfl rfl rfl rfl ?_
          refine rl_gskip rfl rfl rfl rfl rfl rfl ?_
          refine rl_gskip rfl rfl rfl rfl rfl rfl ?_
          refine rl_gskip rfl rfl rfl rfl rfl rfl ?_
          refine rl_gskip rfl rfl rfl rfl rfl rfl ?_
          refine rl_gskip rfl rfl rfl rfl rfl rfl ?_
          refine rl_v rfl rfl rfl (ov_pick_t rfl rfl rfl) ?_
          refine rl_nil (hk3 _ (jbt rfl (by first | omega | grind)) (And.intro rfl (And.intro rfl (And.intro rfl (And.intro rfl trivial)))))
        · refine rl_gv rfl rfl rfl rfl rfl (ov_move rfl rfl) ?_
          refine rl_gv rfl rfl rfl rfl rfl (ov_move rfl rfl) ?_
          refine rl_gv rfl rfl rfl rfl rfl (ov_index1 rfl Try.underlying23 (by kernel_rfl) rfl rfl ⟨by omega, by omega⟩ (by first | rfl | exact hqa (by omega))) ?_
          refine rl_gv rfl rfl rfl rfl rfl (ov_load rfl Try.underlying2 rfl rfl (by first | exact hq _ hO.below _ (by omega) (by omega) | exact hO.cellI 0 rfl _ (by omega) (by omega) | exact hO.cellL 0 rfl rfl | exact hO.cellI 1 rfl _ (by omega) (by omega) | exact hO.cellL 1 rfl rfl | exact hO.cellI 2 rfl _ (by omega) (by omega) | exact hO.cellL 2 rfl rfl | exact hO.cellI 3 rfl _ (by omega) (by omega) | exact hO.cellL 3 rfl rfl | exact hO.cellI 4 rfl _ (by omega) (by omega) | exact hO.cellL 4 rfl rfl | exact hO.cellI 5 rfl _ (by omega) (by omega) | exact hO.cellL 5 rfl rfl)) ?_
          refine rl_gv rfl rfl rfl rfl rfl (ov_move rfl rfl) ?_
          refine rl_gv rfl rfl rfl rfl rfl (ov_gtr rfl rfl rfl) ?_
          refine rl_v rfl rfl rfl (ov_pick_f rfl rfl rfl) ?_
          refine rl_nil (hk3 _ (jbd rfl (by first | omega | grind)) (And.intro rfl (And.intro rfl (And.intro rfl (And.intro rfl trivial)))))
      · show Run _ _ _ _ [(34, _), (1, _), (2, _), (3, _), (9, _)] _ _
        first | refine run_cond_dec rfl (fun h3 => ?_) (fun h3 => ?_) | refine run_cond rfl (fun h3 => ?_) (fun h3 => ?_)
        · refine run_seq ?_
          refine run_region ?_
          refine rl_v rfl rfl rfl (ov_assign rfl rfl) ?_
          refine rl_nil ?_
          refine run_ret Try.func16 (res1 Try.results16 rfl) ?_
          exact ⟨⟨_, rfl, fun h => (by cases h), fun h => by have := h.2 k hk0 h2; omega⟩, hO.below⟩
        · refine run_skip ?_
          refine run_inBlock ?_
          refine run_region ?_
          refine rl_v rfl rfl rfl (ov_move rfl rfl) ?_
          refine rl_v rfl rfl rfl (ov_add rfl rfl rfl (by omega)) ?_
          refine rl_v rfl rfl rfl (ov_assign rfl rfl) ?_
          refine rl_nil ?_
          refine Run.use (ih2 _ _ ?_ ?_) (And.intro (by first | with_reducible rfl | exact slot_int rfl (by first | omega) | rfl) (And.intro rfl (And.intro rfl (And.intro rfl trivial))))
          · first | omega | (dsimp only; omega)
          · exact ⟨by omega, by omega, fun i a b => (by omega : i = k ∨ i < k).elim (fun e => by rw [e]; omega) (fun e => hall i a e), hO⟩
    · refine run_exit rfl ?_
      refine run_seq ?_
      refine run_region ?_
      refine rl_v rfl rfl rfl (ov_assign rfl rfl) ?_
      refine rl_nil ?_
      refine run_ret Try.func16 (res1 Try.results16 rfl) ?_
      exact ⟨⟨_, rfl, fun _ => ⟨by omega, fun i a b => hall i a (by omega)⟩, fun _ => rfl⟩, hO.below⟩
end Go.Proofs.Ytiambddcpflkhaa
