import Derived.Test.YtfbbagnpdfafjaaHaP
import Derived.Test.YtfbbagnpdfafjaaMaps
import Derived.Test.YtfbbagnpdfafjaaRul
set_option maxRecDepth 100000
namespace Go.Proofs.Ytfbbagnpdfafjaa
open Go.RowKit Go.Proofs
def HM.hasM (X : HM) (m : Int) : Prop := 0 ≤ m ∧ m < X.mo
instance (X : HM) (m : Int) : Decidable (X.hasM m) := by unfold HM.hasM; exact inferInstance
def HM.hasC (X : HM) (n : Int) : Prop := 1 ≤ n ∧ n ≤ X.n
instance (X : HM) (n : Int) : Decidable (X.hasC n) := by unfold HM.hasC; exact inferInstance
def HM.total (X : HM) : Int := X.cap - X.hole + sm (fun j => (X.ac j).cash + (X.ac j).fund) X.mem
theorem total_any (hb B : Nat) (X : HM) (Pl R : List (Option Blk)) (w0 w : World) (h : HAt B w0 w hb X Pl R) (hG : HG X) :
  Calls Try.prog 30 #[ptr hb] w fun e w' => e = .returned (iv X.total) ∧ HAt B w0 w' hb X Pl R := by
 obtain ⟨K, N, hO, hK, hPl⟩ := h
 have hmem := hG.mem
 have hcap := hG.cap
 have hhole := hG.hole
 have hbd : ∀ k : Int, 0 ≤ k → k ≤ X.mem → -(k * ((20000000000000000 : Nat) : Int)) ≤ sm (fun j => (X.ac j).cash + (X.ac j).fund) k ∧ sm (fun j => (X.ac j).cash + (X.ac j).fund) k ≤ k * ((20000000000000000 : Nat) : Int) := fun k k0 k1 => sm_abs _ k0 fun i i0 i1 => by
  have h1 := hG.cash i i0 (by omega)
  have h2 := hG.fund i i0 (by omega)
  omega
 refine calls_of_run (F := [(0, _)]) Try.func30 rfl Try.ntmps30 rfl rfl <| run_seq <| run_region <| rl_v rfl rfl rfl (ov_assign rfl rfl) <| rl_nil <| run_seq <| run_seq <| run_region <| rl_v rfl rfl rfl (ov_move rfl rfl) <| rl_v rfl rfl rfl (ov_ptrnil rfl Try.underlying30 rfl) <| rl_nil <| run_cond_f rfl ?_
 have hs0 : sm (fun j => (X.ac j).cash + (X.ac j).fund) 0 = 0 := rfl
 refine run_skip <| run_seq <| run_quiet mixed (by kernel_rfl) ?_
 refine rq_v rfl rfl rfl (fun _ => ov_move rfl rfl) ?_
 refine rq_v rfl rfl rfl (fun _ => ov_nil rfl rfl) ?_
 refine rq_v rfl rfl rfl (fun _ => ov_fieldS rfl Try.underlying124 rfl (fo := 15) rfl (by kernel_rfl) rfl) ?_
 refine rq_v rfl rfl rfl (fun _ => ov_load rfl Try.underlying2 rfl rfl (by show World.cell? w _ = _; first | exact (show _ = some (iv X.cap) from hO.cellL 0 rfl (off := 15) rfl))) ?_
 refine rq_v rfl rfl rfl (fun _ => ov_move rfl rfl) ?_
 refine rq_v rfl rfl rfl (fun _ => ov_nil rfl rfl) ?_
 refine rq_v rfl rfl rfl (fun _ => ov_fieldS rfl Try.underlying124 rfl (fo := 16) rfl (by kernel_rfl) rfl) ?_
 refine rq_v rfl rfl rfl (fun _ => ov_load rfl Try.underlying2 rfl rfl (by show World.cell? w _ = _; first | exact (show _ = some (iv X.hole) from hO.cellL 0 rfl (off := 16) rfl))) ?_
 refine rq_v rfl rfl rfl (fun _ => ov_sub rfl rfl rfl (by omega)) ?_
 refine rq_v rfl rfl rfl (fun _ => ov_assign rfl rfl) ?_
 refine rq_nil (fun n1 => ?_)
 have hO3 := hO.drewN n1
 generalize World.drewN w n1 = w2 at hO3 ⊢
 refine run_seq <| run_seq <| run_region <| rl_v rfl rfl rfl (ov_move rfl rfl) <| rl_v rfl rfl rfl (ov_nil rfl rfl) <| rl_v rfl rfl rfl (ov_fieldS rfl Try.underlying124 rfl (fo := 17) rfl (by kernel_rfl) rfl) ?_
 refine rl_v rfl rfl rfl (ov_load rfl Try.underlying120 rfl rfl (by exact hO3.cellL 0 rfl (off := 17) rfl)) ?_
 refine rl_v rfl rfl rfl (ov_len rfl Try.underlying120 rfl) <| rl_v rfl rfl rfl (ov_move rfl rfl) <| rl_nil <| run_block <| Run.keep [3, 20, 21, 22] (F' := [(3, _), (20, _), (21, _), (22, _)]) rfl <| run_loop1 (fun (j : Int) => [(3, .int .i64 (X.cap - X.hole + sm (fun j => (X.ac j).cash + (X.ac j).fund) j)), (22, .int .i64 j)]) [20, 21] (fun (j : Int) (w4 : World) => (0 ≤ j ∧ j ≤ X.mem) ∧ Own B w0 w4 (houB hb (X.r K) :: K.blk :: (N ++ R))) (fun (j : Int) => ((X.mem : Int) - j).toNat) (0) ?_ (And.intro (by exact slot_int rfl (by first | omega)) (And.intro (by exact slot_int rfl (by first | omega)) (And.intro rfl (And.intro rfl trivial)))) ?_
 ·exact ⟨by omega, hO3⟩
 intro j w4 hIw4 ih5
 obtain ⟨hj, hO3⟩ := hIw4
 show Run _ _ _ _ [(3, _), (22, _), (20, _), (21, _)] _ _
 refine run_seq <| run_region <| rl_v rfl rfl rfl (ov_lss rfl rfl rfl) <| rl_nil <| run_seq ?_
 first | refine run_cond_dec rfl (fun h1 => ?_) (fun h1 => ?_) | refine run_cond rfl (fun h1 => ?_) (fun h1 => ?_)
 ·have h1' : j < (X.mem : Int) := h1
  refine run_skip <| run_seq <| run_block <| run_seq <| run_region <| rl_v rfl rfl rfl (ov_index rfl Try.underlying120 (by kernel_rfl) (s := 15) rfl rfl ⟨hj.1, h1'⟩ rfl) ?_
  refine rl_v rfl rfl rfl (ov_loadE rfl Try.underlying127 rfl (by kernel_rfl) rfl ⟨by omega, by omega⟩ rfl (hK.reads hO3 1 rfl)) ?_
  refine rl_ow rfl (ow_alloc _ rfl rfl rfl zero_127 rfl hO3) ?_
  rintro _ w6 ⟨b5, rfl, hO7, hs8⟩
  refine rl_ow rfl (ow_storeW rfl rfl (by kernel_rfl) hO7 0 rfl rfl (by rfl) rfl (by rfl)) ?_
  rintro _ w9 ⟨rfl, hO10, hs11⟩
  have hb1 := hbd j hj.1 hj.2
  have hca := hG.cash j hj.1 h1'
  have hfu := hG.fund j hj.1 h1'
  have hsu := sm_succ (fun j => (X.ac j).cash + (X.ac j).fund) (k := j) hj.1
  refine rl_nil <| run_region <| rl_v rfl rfl rfl (ov_move rfl rfl) <| rl_v rfl rfl rfl (ov_fieldS rfl Try.underlying127 rfl (fo := 0) rfl (by kernel_rfl) rfl) ?_
  refine rl_v rfl rfl rfl (ov_load rfl Try.underlying2 rfl rfl (by exact (show _ = some (iv (X.ac j).cash) from hO10.cellL 0 rfl (off := 0) rfl))) ?_
  refine rl_v rfl rfl rfl (ov_fieldS rfl Try.underlying127 rfl (fo := 1) rfl (by kernel_rfl) rfl) ?_
  refine rl_v rfl rfl rfl (ov_load rfl Try.underlying2 rfl rfl (by exact (show _ = some (iv (X.ac j).fund) from hO10.cellL 0 rfl (off := 1) rfl))) ?_
  refine rl_v rfl rfl rfl (ov_add rfl rfl rfl (by omega)) ?_
  refine rl_v rfl rfl rfl (ov_add rfl rfl rfl (by omega)) ?_
  refine rl_v rfl rfl rfl (ov_assign rfl rfl) <| rl_nil <| run_inBlock <| run_region <| rl_v rfl rfl rfl (ov_add rfl rfl rfl (by omega)) ?_
  refine rl_v rfl rfl rfl (ov_move rfl rfl) <| rl_nil ?_
  refine Run.use (ih5 (j + 1) _ ?_ ?_) (And.intro (by exact slot_int rfl (by first | omega)) (And.intro (by exact slot_int rfl (by first | omega)) (And.intro rfl (And.intro rfl trivial))))
  ·first | omega | (dsimp only; omega)
  ·exact ⟨by omega, hO10.tail⟩
 ·have h1' : ¬ j < (X.mem : Int) := h1
  obtain rfl : j = X.mem := by omega
  refine run_exit rfl <| run_seq <| run_region <| rl_v rfl rfl rfl (ov_move rfl rfl) <| rl_v rfl rfl rfl (ov_assign rfl rfl) <| rl_nil <| run_ret Try.func30 (res1 Try.results30 rfl) ?_
  exact ⟨rfl, K, N, hO3, hK, hPl⟩
end Go.Proofs.Ytfbbagnpdfafjaa
set_option maxRecDepth 100000
namespace Go.Proofs.Ytfbbagnpdfafjaa
open Go.RowKit Go.Proofs
def PRow (N : List (Option Blk)) (v : Value) (s n : Nat) (G : Int → List Value) : Prop :=
 ∃ ao cap, v = .slice ao n cap ∧ n ≤ cap ∧ (0 < n → ∃ b t m f, ao = some ⟨b, 0, none⟩ ∧ some (⟨b, t, m, f, none⟩ : Blk) ∈ N ∧ n * s ≤ m ∧ ∀ j, j < n * s → f j = (G ((j / s : Nat) : Int)).getD (j % s) undef)
theorem PRow.mono {N N' : List (Option Blk)} {v : Value} {s n : Nat} {G : Int → List Value} (h : PRow N v s n G) (hN : ∀ x ∈ N, x ∈ N') : PRow N' v s n G := by
 obtain ⟨ao, cap, h1, h2, h3⟩ := h
 exact ⟨ao, cap, h1, h2, fun hn => let ⟨b, t, m, f, e1, e2, e3⟩ := h3 hn; ⟨b, t, m, f, e1, hN _ e2, e3⟩⟩
theorem PRow.val {N : List (Option Blk)} {v : Value} {s n : Nat} {G : Int → List Value} (h : PRow N v s n G) : ∃ ao cap, v = .slice ao n cap ∧ n ≤ cap := let ⟨ao, cap, h1, h2, _⟩ := h; ⟨ao, cap, h1, h2⟩
theorem PRow.nil (N : List (Option Blk)) (s : Nat) (G : Int → List Value) : PRow N (.slice none 0 0) s 0 G := ⟨none, 0, rfl, Nat.le_refl _, fun h => absurd h (Nat.lt_irrefl _)⟩
theorem PRow.of_row {N : List (Option Blk)} {v : Value} {E : TypeId} {s n : Nat} {G : Int → List Value} {c : Option Blk} (h : SRow v E s n G c) (hc : c ∈ N) : PRow N v s n G := by
 rcases h with ⟨rfl, rfl, _⟩ | ⟨b, cap, g, rfl, h2, h3, rfl, h5⟩
 ·exact PRow.nil _ _ _
 ·exact ⟨_, cap, rfl, h2, fun _ => ⟨b, E, cap * s, g, rfl, hc, Nat.mul_le_mul_right s h2, h5⟩⟩
theorem PRow.congr {N : List (Option Blk)} {v : Value} {s n : Nat} {G G' : Int → List Value} (h : PRow N v s n G) (e : ∀ i : Int, 0 ≤ i → i < n → G i = G' i) : PRow N v s n G' := by
 obtain ⟨ao, cap, h1, h2, h3⟩ := h
 refine ⟨ao, cap, h1, h2, fun hn => ?_⟩
 obtain ⟨b, t, m, f, e1, e2, e3, e4⟩ := h3 hn
 refine ⟨b, t, m, f, e1, e2, e3, fun j hj => ?_⟩
 have : j / s < n := Nat.div_lt_of_lt_mul (by rw [Nat.mul_comm]; exact hj)
 rw [e4 j hj, e _ (Int.natCast_nonneg _) (Int.ofNat_lt.2 this)]
theorem PRow.open {N : List (Option Blk)} {ao : Option Addr} {s n m cap : Nat} {G : Int → List Value} (h : PRow N (.slice ao m cap) s n G) :
  ∃ b, (0 < n → ao = some ⟨b, 0, none⟩) ∧ ∀ {B : Nat} {w0 w : World} {H : List (Option Blk)}, Own B w0 w H → (∀ x ∈ N, x ∈ H) → ∀ i : Int, 0 ≤ i → i < n → ∀ fo, fo < s → w.cell? ⟨b, 0 + i.toNat * s + fo, none⟩ = some ((G i).getD fo undef) := by
 obtain ⟨ao', cap', h1, h2, h3⟩ := h
 cases h1
 rcases Nat.eq_zero_or_pos n with rfl | hn
 ·exact ⟨0, fun h => absurd h (Nat.lt_irrefl _), fun _ _ i h0 h1 => by omega⟩
 ·obtain ⟨b, t, q, f, rfl, e2, e3, e4⟩ := h3 hn
  refine ⟨b, fun _ => rfl, fun hO hN i h0 h1 fo hf => ?_⟩
  have hlt := lt_mul hf (show i.toNat < n by omega)
  have h5 := blkIs.row (hO.at_ _ (hN _ e2)) rfl
  have h6 := h5.cell (i := i.toNat * s + fo) (by show _ < q; omega)
  rw [Nat.zero_add]
  dsimp only at h6
  rw [h6, e4 _ hlt, (divmod_eq hf).1, (divmod_eq hf).2]
  simp only [Int.toNat_of_nonneg h0]
theorem mem_app {N R : List (Option Blk)} : ∀ x ∈ N, x ∈ N ++ R := fun _ h => List.mem_append_left _ h
theorem mem_c1 {a : Option Blk} {N H : List (Option Blk)} (h : ∀ x ∈ N, x ∈ H) : ∀ x ∈ N, x ∈ a :: H := fun x hx => List.mem_cons_of_mem _ (h x hx)
theorem mem6 {a b c d e f : Option Blk} {N R : List (Option Blk)} : ∀ x ∈ N, x ∈ a :: b :: c :: d :: e :: f :: (N ++ R) := mem_c1 (mem_c1 (mem_c1 (mem_c1 (mem_c1 (mem_c1 mem_app)))))
theorem mem7 {a b c d e f g : Option Blk} {N R : List (Option Blk)} : ∀ x ∈ N, x ∈ a :: b :: c :: d :: e :: f :: g :: (N ++ R) := mem_c1 mem6
theorem mem8 {a b c d e f g h : Option Blk} {N R : List (Option Blk)} : ∀ x ∈ N, x ∈ a :: b :: c :: d :: e :: f :: g :: h :: (N ++ R) := mem_c1 mem7
theorem PRow.of_irow {N : List (Option Blk)} {v : Value} {E : TypeId} {n : Nat} {G : Int → Value} {c : Option Blk} (h : IRow v E n G c) (hc : c ∈ N) : PRow N v 1 n (fun i => [G i]) := by
 rcases h with ⟨rfl, rfl, _⟩ | ⟨b, cap, g, rfl, h2, h3, rfl, h5⟩
 ·exact PRow.nil _ _ _
 ·exact ⟨_, cap, rfl, h2, fun _ => ⟨b, E, cap * 1, g, rfl, hc, by omega, fun j hj => by rw [h5 j hj]; simp [Nat.mod_one]⟩⟩
theorem perm_front {H : List (Option Blk)} {k : Nat} {x : Option Blk} (hk : H[k]? = some x) : H.Perm (x :: H.eraseIdx k) := by
 induction H generalizing k with
 | nil => simp at hk
 | cons a H ih =>
  cases k with
  | zero => simp at hk; subst hk; exact List.Perm.refl _
  | succ k =>
   simp only [List.getElem?_cons_succ] at hk
   exact ((ih hk).cons a).trans (List.Perm.swap _ _ _)
theorem perm_mid {α : Type} (x : α) (M T : List α) : (x :: (M ++ T)).Perm (M ++ x :: T) := List.perm_middle.symm
theorem perm_mid2 {α : Type} (x : α) (M N R : List α) : (x :: (M ++ (N ++ R))).Perm (M ++ (N ++ x :: R)) := by
 have h := perm_mid x (M ++ N) R
 simpa [List.append_assoc] using h
end Go.Proofs.Ytfbbagnpdfafjaa
set_option maxRecDepth 100000
namespace Go.Proofs.Ytfbbagnpdfafjaa
open Go.RowKit Go.Proofs
def HM.hasS (X : HM) (s : Int) : Prop := 0 ≤ s ∧ s < X.k
instance (X : HM) (s : Int) : Decidable (X.hasS s) := by unfold HM.hasS; exact inferInstance
end Go.Proofs.Ytfbbagnpdfafjaa
