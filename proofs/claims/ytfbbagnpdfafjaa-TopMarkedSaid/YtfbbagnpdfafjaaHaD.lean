import Derived.Test.YtfbbagnpdfafjaaHaC
set_option maxRecDepth 100000
namespace Go.Proofs.Ytfbbagnpdfafjaa
open Go.RowKit Go.Proofs
def SrcS (H : List (Option Blk)) (ao : Option Addr) (s m : Nat) (G : Int → List Value) : Prop := ∀ (B : Nat) (w0 w : World), Own B w0 w H → SAt w.heap.size w ao s m G
theorem SrcS.cons {H : List (Option Blk)} {x : Option Blk} {ao : Option Addr} {s m : Nat} {G : Int → List Value} (h : SrcS H ao s m G) : SrcS (x :: H) ao s m G := fun B w0 w hO => h B w0 w hO.tail
def Bd (p : Int → Int) (A : Nat) : Prop := ∀ m : Int, 0 ≤ m → m < 12 → (p m).natAbs ≤ A
theorem mulAbs {a b : Int} {A B : Nat} (ha : a.natAbs ≤ A) (hb : b.natAbs ≤ B) : (a * b).natAbs ≤ A * B := by rw [Int.natAbs_mul]; exact Nat.mul_le_mul ha hb
theorem sm_abs {f : Int → Int} {k : Int} (M : Nat) (k0 : 0 ≤ k) (h : ∀ i : Int, 0 ≤ i → i < k → (f i).natAbs ≤ M) : -(k * (M : Int)) ≤ sm f k ∧ sm f k ≤ k * (M : Int) := by
 have h1 := sm_bound (f := f) (M : Int) k0 fun i i0 i1 => by have := h i i0 i1; omega
 have h2 := sm_bound' (f := f) (-(M : Int)) k0 fun i i0 i1 => by have := h i i0 i1; omega
 rw [Int.mul_neg] at h2
 exact ⟨h2, h1⟩
structure HBd (r : HR) (mv : Int → Int → Int) : Prop where
 rate : 0 ≤ r.rate ∧ r.rate ≤ 1000
 mn : r.mn ≤ 1000
 mv : ∀ i : Int, 0 ≤ i → i < r.mn → Bd (mv i) 1000000
theorem loss_rng {mv : Int → Int → Int} {p : Int → Int} {i : Int} (hp : Bd p 2000000) (hm : Bd (mv i) 1000000) {k : Int} (k0 : 0 ≤ k) (k1 : k ≤ 12) : -24000000000000 ≤ sm (fun m => -(p m * mv i m)) k ∧ sm (fun m => -(p m * mv i m)) k ≤ 24000000000000 := by
 have h := sm_abs (f := fun m => -(p m * mv i m)) (k := k) 2000000000000 k0 fun m m0 m1 => by
  have := mulAbs (hp m m0 (by omega)) (hm m m0 (by omega))
  omega
 omega
theorem losses_any (hb B k : Nat) (r : HR) (mv : Int → Int → Int) (p : Int → Int) (H : List (Option Blk)) (w0 w : World) (hO : Own B w0 w H) (hk : H[k]? = some (houB hb r)) (hmv : SrcS H r.ma 12 r.mn (fun i => monL (mv i))) (hB : HBd r mv) (hp : Bd p 2000000) :
  Calls Try.prog 88 #[ptr hb, .agg (monL p).toArray] w fun e w' => ∃ v c, e = .returned v ∧ IRow v 2 r.mn (fun i => iv (lossF mv p i)) c ∧ Own B w0 w' (c :: H) := by
 have hmn := hB.mn
 refine calls_of_run (F := [(0, _), (1, _)]) Try.func88 rfl Try.ntmps88 rfl rfl <| run_seq <| run_region <| rl_ow rfl (ow_boxA (n := 12) (G := fun j => iv (p j)) rfl rfl rfl rfl hO) ?_
 rintro _ w1 ⟨b3, rfl, hO2, hs3⟩
 refine rl_v rfl rfl rfl (ov_assign rfl rfl) <| rl_nil <| run_seq <| run_region <| rl_v rfl rfl rfl (ov_assign rfl rfl) <| rl_nil <| run_seq <| run_seq <| run_region <| rl_v rfl rfl rfl (ov_move rfl rfl) <| rl_v rfl rfl rfl (ov_nil rfl rfl) <| rl_v rfl rfl rfl (ov_fieldS rfl Try.underlying124 rfl (fo := 13) rfl (by kernel_rfl) rfl) ?_
 refine rl_v rfl rfl rfl (ov_load rfl Try.underlying121 rfl rfl (by exact hO2.cellL (k + 1) hk (off := 13) rfl)) ?_
 refine rl_v rfl rfl rfl (ov_len rfl Try.underlying121 rfl) <| rl_v rfl rfl rfl (ov_move rfl rfl) <| rl_nil <| run_block <| Run.keep [3, 5, 14, 15, 16] (F' := [(3, _), (5, _), (14, _), (15, _), (16, _)]) rfl <| run_loop4 (fun (i : Int) (n : Nat) (v : Value) (c : Option Blk) => [(5, v), (16, .int .i64 i)]) [3, 14, 15] (fun (i : Int) (n : Nat) (v : Value) (c : Option Blk) (w4 : World) => i = n ∧ n ≤ r.mn ∧ IRow v 2 n (fun i => iv (lossF mv p i)) c ∧ Own B w0 w4 (c :: some (vch b3 118 12 (fun j => iv (p j))) :: H)) (fun (i : Int) (n : Nat) (v : Value) (c : Option Blk) => r.mn - n) (0) (0) (.slice none 0 0) (none) ?_ (And.intro rfl (And.intro (by exact slot_int rfl (by first | omega)) (And.intro rfl (And.intro rfl (And.intro rfl trivial))))) ?_
 ·exact ⟨rfl, by omega, IRow.nil _ _, hO2.nil_cons⟩
 intro i n v c w4 hIw4 ih5
 obtain ⟨hi, hn, hr, hO1⟩ := hIw4
 show Run _ _ _ _ [(5, _), (16, _), (3, _), (14, _), (15, _)] _ _
 refine run_seq <| run_region <| rl_v rfl rfl rfl (ov_lss rfl rfl rfl) <| rl_nil <| run_seq ?_
 first | refine run_cond_dec rfl (fun h1 => ?_) (fun h1 => ?_) | refine run_cond rfl (fun h1 => ?_) (fun h1 => ?_)
 ·obtain ⟨gb, go, hga, hrow⟩ := (hmv B w0 w4 hO1.tail.tail).open (by omega)
  have hmi := hB.mv i (by omega) h1
  refine run_skip <| run_seq <| run_block <| run_seq <| run_region <| rl_v rfl rfl rfl (ov_index rfl Try.underlying121 (by kernel_rfl) (s := 12) rfl rfl ⟨by omega, by omega⟩ (by exact (hga (by omega)))) ?_
  refine rl_v rfl rfl rfl (ov_loadE rfl Try.underlying118 rfl (by kernel_rfl) rfl ⟨by omega, by omega⟩ rfl (hrow _ (Below.refl _ _))) ?_
  refine rl_ow rfl (ow_allocA 12 rfl rfl rfl zero_118 rfl hO1) ?_
  rintro _ w6 ⟨b7, rfl, hO7, hs8⟩
  refine rl_ow rfl (ow_storeA (G2 := fun j => iv (mv i j)) rfl rfl (by kernel_rfl) hO7 0 rfl rfl rfl (fun _ => rfl)) ?_
  rintro _ w9 ⟨rfl, hO10, hs11⟩
  refine rl_nil <| run_seq <| run_region <| rl_v rfl rfl rfl (ov_assign rfl rfl) <| rl_nil <| run_seq <| run_seq <| run_region <| rl_v rfl rfl rfl (ov_loadA rfl Try.underlying118 rfl (by kernel_rfl) rfl hO10 2 rfl) ?_
  refine rl_v rfl rfl rfl (ov_move rfl rfl) <| rl_nil <| run_block <| Run.keep [3, 5, 7, 8, 14, 15, 16, 20, 21] (F' := [(3, _), (5, _), (7, _), (8, _), (14, _), (15, _), (16, _), (20, _), (21, _)]) rfl <| run_loop1 (fun (m : Int) => [(8, .int .i64 (sm (fun m => -(p m * mv i m)) m)), (21, .int .i64 m)]) [3, 5, 7, 14, 15, 16, 20] (fun (m : Int) (w12 : World) => (0 ≤ m ∧ m ≤ 12) ∧ Own B w0 w12 (some (vch b7 118 12 (fun j => iv (mv i j))) :: c :: some (vch b3 118 12 (fun j => iv (p j))) :: H)) (fun (m : Int) => (12 - m).toNat) (0) ?_ (And.intro (by rfl) (And.intro (by exact slot_int rfl (by first | omega)) (And.intro rfl (And.intro rfl (And.intro rfl (And.intro rfl (And.intro rfl (And.intro rfl (And.intro rfl trivial))))))))) ?_
  ·exact ⟨by omega, hO10⟩
  intro m w12 hIw12 ih13
  obtain ⟨hm, hO2⟩ := hIw12
  show Run _ _ _ _ [(8, _), (21, _), (3, _), (5, _), (7, _), (14, _), (15, _), (16, _), (20, _)] _ _
  refine run_seq <| run_region <| rl_v rfl rfl rfl (ov_lss rfl rfl rfl) <| rl_nil <| run_seq ?_
  first | refine run_cond_dec rfl (fun h2 => ?_) (fun h2 => ?_) | refine run_cond rfl (fun h2 => ?_) (fun h2 => ?_)
  ·have hpm := hp m hm.1 h2
   have hmm := hmi m hm.1 h2
   have hmul := mulAbs hpm hmm
   have hl := loss_rng hp hmi hm.1 (Int.le_of_lt h2)
   have hsu := sm_succ (fun m => -(p m * mv i m)) (k := m) hm.1
   refine run_skip <| run_seq <| run_block <| run_seq <| run_region <| rl_v rfl rfl rfl (ov_move rfl rfl) <| rl_v rfl rfl rfl (ov_idx12 (g := p) rfl Try.underlying118 rfl rfl ⟨hm.1, h2⟩) <| rl_v rfl rfl rfl (ov_assign rfl rfl) <| rl_v rfl rfl rfl (ov_assign rfl rfl) <| rl_nil <| run_region <| rl_v rfl rfl rfl (ov_move rfl rfl) <| rl_v rfl rfl rfl (ov_move rfl rfl) <| rl_v rfl rfl rfl (ov_move rfl rfl) <| rl_v rfl rfl rfl (ov_indexA1 rfl Try.underlying118 (by kernel_rfl) rfl rfl ⟨by omega, by omega⟩) ?_
   refine rl_v rfl rfl rfl (ov_load rfl Try.underlying2 rfl rfl (by exact hO2.cellI 0 rfl m hm.1 h2)) ?_
   refine rl_v rfl rfl rfl (ov_mul rfl rfl rfl (by omega)) ?_
   refine rl_v rfl rfl rfl (ov_sub rfl rfl rfl (by omega)) ?_
   refine rl_v rfl rfl rfl (ov_assign rfl rfl) <| rl_nil <| run_inBlock <| run_region <| rl_v rfl rfl rfl (ov_add rfl rfl rfl (by omega)) ?_
   refine rl_v rfl rfl rfl (ov_move rfl rfl) <| rl_nil ?_
   refine Run.use (ih13 (m + 1) _ ?_ ?_) (And.intro (by exact slot_int rfl (by first | omega)) (And.intro (by exact slot_int rfl (by first | omega)) (And.intro rfl (And.intro rfl (And.intro rfl (And.intro rfl (And.intro rfl (And.intro rfl (And.intro rfl trivial)))))))))
   ·first | omega | (dsimp only; omega)
   ·exact ⟨by omega, hO2⟩
  ·obtain rfl : m = 12 := by omega
   have hO3 := hO2.tail
   refine run_exit rfl <| run_region <| rl_v rfl rfl rfl (ov_move rfl rfl) <| rl_v rfl rfl rfl (ov_move rfl rfl) ?_
   refine rl_appI rfl rfl rfl rfl rfl rfl rfl rfl Try.underlying22 info_2 rfl hO3 0 hr rfl rfl rfl ⟨by omega, by omega⟩ (fun v2 c2 w14 hO15 hr2 hs16 => ?_)
   refine rl_v rfl rfl rfl (ov_assign rfl rfl) <| rl_nil <| run_inBlock <| run_region <| rl_v rfl rfl rfl (ov_add rfl rfl rfl (by omega)) ?_
   refine rl_v rfl rfl rfl (ov_move rfl rfl) <| rl_nil ?_
   refine Run.use (ih5 (i + 1) (n + 1) (v2) (c2) _ ?_ ?_) (And.intro rfl (And.intro (by exact slot_int rfl (by first | omega)) (And.intro rfl (And.intro rfl (And.intro rfl trivial)))))
   ·first | omega | (dsimp only; omega)
   ·exact ⟨by omega, by omega, hr2.congr fun j j0 j1 => (by unfold upd; split; (rename_i e; rw [e, ← hi]; rfl); rfl), hO15⟩
 ·obtain rfl : r.mn = n := by omega
  refine run_exit rfl <| run_seq <| run_region <| rl_v rfl rfl rfl (ov_move rfl rfl) <| rl_v rfl rfl rfl (ov_assign rfl rfl) <| rl_nil <| run_ret Try.func88 (res1 Try.results88 rfl) ?_
  exact ⟨v, c, rfl, hr, hO1.sub (.cons_cons _ (.cons _ (.refl _)))⟩
theorem mxF_nonneg (f : Int → Int) : ∀ k, 0 ≤ mxF f k
 | 0 => Int.le_refl _
 | k + 1 => by have := mxF_nonneg f k; unfold mxF; omega
theorem mxF_le {f : Int → Int} {M : Int} (h0 : 0 ≤ M) : ∀ k : Nat, (∀ i : Int, 0 ≤ i → i < k → f i ≤ M) → mxF f k ≤ M
 | 0, _ => h0
 | k + 1, h => by
  have h1 := mxF_le h0 k fun i i0 i1 => h i i0 (by omega)
  have h2 := h k (by omega) (by omega)
  unfold mxF
  omega
theorem greatest_any (ao : Option Addr) (n c B : Nat) (g : Int → Int) (H : List (Option Blk)) (w0 w : World) (hO : Own B w0 w H) (hs : SrcI H ao n g) (hn : n ≤ 4000000000000) :
  Calls Try.prog 129 #[.slice ao n c] w fun e w' => e = .returned (iv (mxF g n)) ∧ w' = w := by
 obtain ⟨gb, go, hga, hrow⟩ := (hs B w0 w hO).open
 refine calls_of_run (F := [(0, _)]) Try.func129 rfl Try.ntmps129 rfl rfl ?_
 have hO0 := Own.init w
 refine run_seq <| run_region <| rl_v rfl rfl rfl (ov_assign rfl rfl) <| rl_nil <| run_seq <| run_region <| rl_v rfl rfl rfl (ov_assign rfl rfl) <| rl_nil <| run_seq <| run_seq <| run_region <| rl_v rfl rfl rfl (ov_move rfl rfl) <| rl_v rfl rfl rfl (ov_len rfl Try.underlying22 rfl) <| rl_v rfl rfl rfl (ov_move rfl rfl) <| rl_nil <| run_block <| Run.keep [3, 6, 7, 8] (F' := [(3, _), (6, _), (7, _), (8, _)]) rfl <| run_loop2 (fun (i : Int) (k : Nat) => [(3, .int .i64 (mxF g k)), (8, .int .i64 i)]) [6, 7] (fun (i : Int) (k : Nat) (w1 : World) => i = k ∧ k ≤ n ∧ w1 = w) (fun (i : Int) (k : Nat) => n - k) (0) (0) ?_ (And.intro (by rfl) (And.intro (by exact slot_int rfl (by first | omega)) (And.intro rfl (And.intro rfl trivial)))) ?_
 ·exact ⟨rfl, by omega, rfl⟩
 intro i k w1 hIw1 ih2
 obtain ⟨hi, hk, hw⟩ := hIw1
 show Run _ _ _ _ [(3, _), (8, _), (6, _), (7, _)] _ _
 refine run_seq <| run_region <| rl_v rfl rfl rfl (ov_lss rfl rfl rfl) <| rl_nil <| run_seq ?_
 first | refine run_cond_dec rfl (fun h1 => ?_) (fun h1 => ?_) | refine run_cond rfl (fun h1 => ?_) (fun h1 => ?_)
 ·have hmx : mxF g (k + 1) = max (mxF g k) (g i) := by rw [hi]; rfl
  refine run_skip <| run_seq <| run_block <| run_seq <| run_region <| rl_v rfl rfl rfl (ov_index1 rfl Try.underlying22 (by kernel_rfl) rfl rfl ⟨by omega, by omega⟩ (by exact (hga (by omega)))) ?_
  refine rl_v rfl rfl rfl (ov_load rfl Try.underlying2 rfl rfl (by exact hrow _ (hw ▸ Below.refl _ _) i (by omega) (by omega))) ?_
  refine rl_v rfl rfl rfl (ov_assign rfl rfl) <| rl_nil <| run_region <| rl_v rfl rfl rfl (ov_move rfl rfl) <| rl_v rfl rfl rfl (ov_move rfl rfl) <| rl_v rfl rfl rfl (ov_max rfl rfl rfl) <| rl_v rfl rfl rfl (ov_assign rfl rfl) <| rl_nil <| run_inBlock <| run_region <| rl_v rfl rfl rfl (ov_add rfl rfl rfl (by omega)) ?_
  refine rl_v rfl rfl rfl (ov_move rfl rfl) <| rl_nil ?_
  refine Run.use (ih2 (i + 1) (k + 1) _ ?_ ?_) (And.intro (by exact slot_int rfl (by first | omega)) (And.intro (by exact slot_int rfl (by first | omega)) (And.intro rfl (And.intro rfl trivial))))
  ·first | omega | (dsimp only; omega)
  ·exact ⟨by omega, by omega, hw⟩
 ·obtain rfl : n = k := by omega
  refine run_exit rfl <| run_seq <| run_region <| rl_v rfl rfl rfl (ov_move rfl rfl) <| rl_v rfl rfl rfl (ov_assign rfl rfl) <| rl_nil <| run_ret Try.func129 (res1 Try.results129 rfl) ?_
  exact ⟨rfl, hw⟩
theorem lossF_rng {mv : Int → Int → Int} {p : Int → Int} {i : Int} (hp : Bd p 2000000) (hm : Bd (mv i) 1000000) : -24000000000000 ≤ lossF mv p i ∧ lossF mv p i ≤ 24000000000000 := loss_rng hp hm (by decide) (by decide)
theorem span_rng {p pr : Int → Int} (hp : Bd p 2000000) (hr : ∀ m : Int, 0 ≤ m → m < 12 → 0 ≤ pr m ∧ pr m ≤ 3000000) {k : Int} (k0 : 0 ≤ k) (k1 : k ≤ 12) : 0 ≤ sm (fun m => max (p m) (-(p m)) * pr m) k ∧ sm (fun m => max (p m) (-(p m)) * pr m) k ≤ 72000000000000 := by
 have h1 : ∀ m : Int, 0 ≤ m → m < k → (max (p m) (-(p m)) * pr m).natAbs ≤ 6000000000000 := fun m m0 m1 => by
  have h2 := hp m m0 (by omega)
  have h3 := hr m m0 (by omega)
  exact mulAbs (A := 2000000) (B := 3000000) (by omega) (by omega)
 have h := sm_abs (k := k) 6000000000000 k0 h1
 refine ⟨sm_nonneg fun m m0 m1 => ?_, by omega⟩
 have h2 := hp m m0 (by omega)
 have h3 := hr m m0 (by omega)
 exact Int.mul_nonneg (by omega) h3.1
structure PBd (pr : Int → Int) : Prop where
 rng : ∀ m : Int, 0 ≤ m → m < 12 → 0 ≤ pr m ∧ pr m ≤ 3000000
theorem marF_rng {r : HR} {mv : Int → Int → Int} {p pr : Int → Int} (hB : HBd r mv) (hp : Bd p 2000000) (hr : PBd pr) : 0 ≤ marF mv r.mn r.rate p pr ∧ marF mv r.mn r.rate p pr ≤ 100000000000000 := by
 have h1 := mxF_nonneg (lossF mv p) r.mn
 have h2 := mxF_le (f := lossF mv p) (M := 24000000000000) (by decide) r.mn fun i i0 i1 => (lossF_rng hp (hB.mv i i0 i1)).2
 have h3 := span_rng hp hr.rng (k := 12) (by decide) (by decide)
 have h4 := hB.rate
 have h5 : spanF p pr * r.rate ≤ 72000000000000 * 1000 := Int.mul_le_mul h3.2 h4.2 h4.1 (by decide)
 have h6 : 0 ≤ spanF p pr * r.rate := Int.mul_nonneg h3.1 h4.1
 unfold marF
 omega
theorem margin_any (hb B k : Nat) (r : HR) (mv : Int → Int → Int) (p pr : Int → Int) (H : List (Option Blk)) (w0 w : World) (hO : Own B w0 w H) (hk : H[k]? = some (houB hb r)) (hmv : SrcS H r.ma 12 r.mn (fun i => monL (mv i))) (hB : HBd r mv) (hp : Bd p 2000000) (hr : PBd pr) :
  Calls Try.prog 89 #[ptr hb, .agg (monL p).toArray, .agg (monL pr).toArray] w fun e w' => e = .returned (iv (marF mv r.mn r.rate p pr)) ∧ Own B w0 w' H := by
 have hrt := hB.rate
 have hmar := marF_rng hB hp hr
 refine calls_of_run (F := [(0, _), (1, _), (2, _)]) Try.func89 rfl Try.ntmps89 rfl rfl <| run_seq <| run_region <| rl_ow rfl (ow_boxA (n := 12) (G := fun j => iv (p j)) rfl rfl rfl rfl hO) ?_
 rintro _ w1 ⟨b4, rfl, hO2, hs3⟩
 refine rl_ow rfl (ow_boxA (n := 12) (G := fun j => iv (pr j)) rfl rfl rfl rfl hO2) ?_
 rintro _ w4 ⟨b5, rfl, hO5, hs6⟩
 refine rl_v rfl rfl rfl (ov_assign rfl rfl) <| rl_nil <| run_seq <| run_region <| rl_v rfl rfl rfl (ov_assign rfl rfl) <| rl_nil <| run_seq <| run_seq <| run_region <| rl_v rfl rfl rfl (ov_loadA rfl Try.underlying118 rfl (by kernel_rfl) rfl hO5 1 rfl) ?_
 refine rl_v rfl rfl rfl (ov_move rfl rfl) <| rl_nil <| run_block <| Run.keep [0, 4, 5, 7, 15, 16] (F' := [(0, _), (4, _), (5, _), (7, _), (15, _), (16, _)]) rfl <| run_loop2 (fun (m : Int) (s : Nat) => [(7, .int .u64 (s : Int)), (16, .int .i64 m)]) [0, 4, 5, 15] (fun (m : Int) (s : Nat) (w7 : World) => (0 ≤ m ∧ m ≤ 12) ∧ (s : Int) = sm (fun m => max (p m) (-(p m)) * pr m) m ∧ Own B w0 w7 (some (vch b5 118 12 (fun j => iv (pr j))) :: some (vch b4 118 12 (fun j => iv (p j))) :: H)) (fun (m : Int) (s : Nat) => (12 - m).toNat) (0) (0) ?_ (And.intro (by exact slot_int rfl (by first | omega)) (And.intro (by exact slot_int rfl (by first | omega)) (And.intro rfl (And.intro rfl (And.intro rfl (And.intro rfl trivial)))))) ?_
 ·exact ⟨by omega, rfl, hO5⟩
 intro m s w7 hIw7 ih8
 obtain ⟨hm, hs, hO1⟩ := hIw7
 show Run _ _ _ _ [(7, _), (16, _), (0, _), (4, _), (5, _), (15, _)] _ _
 refine run_seq <| run_region <| rl_v rfl rfl rfl (ov_lss rfl rfl rfl) <| rl_nil <| run_seq ?_
 first | refine run_cond_dec rfl (fun h1 => ?_) (fun h1 => ?_) | refine run_cond rfl (fun h1 => ?_) (fun h1 => ?_)
 ·have hpm := hp m hm.1 h1
  have hrm := hr.rng m hm.1 h1
  have hmul := mulAbs (a := max (p m) (-(p m))) (b := pr m) (A := 2000000) (B := 3000000) (by omega) (by omega)
  have hnn : 0 ≤ max (p m) (-(p m)) * pr m := Int.mul_nonneg (by omega) hrm.1
  have hsp := span_rng hp hr.rng hm.1 (Int.le_of_lt h1)
  have hsu := sm_succ (fun m => max (p m) (-(p m)) * pr m) (k := m) hm.1
  refine run_skip <| run_seq <| run_block <| run_seq <| run_region <| rl_v rfl rfl rfl (ov_move rfl rfl) <| rl_v rfl rfl rfl (ov_idx12 (g := p) rfl Try.underlying118 rfl rfl ⟨hm.1, h1⟩) <| rl_v rfl rfl rfl (ov_assign rfl rfl) <| rl_v rfl rfl rfl (ov_assign rfl rfl) <| rl_nil <| run_region <| rl_v rfl rfl rfl (ov_move rfl rfl) <| rl_v rfl rfl rfl (ov_move rfl rfl) <| rl_v rfl rfl rfl (ov_move rfl rfl) <| rl_v rfl rfl rfl (ov_neg rfl rfl (by omega)) ?_
  refine rl_v rfl rfl rfl (ov_max rfl rfl rfl) <| rl_v rfl rfl rfl (ov_move rfl rfl) <| rl_v rfl rfl rfl (ov_indexA1 rfl Try.underlying118 (by kernel_rfl) rfl rfl ⟨by omega, by omega⟩) ?_
  refine rl_v rfl rfl rfl (ov_load rfl Try.underlying2 rfl rfl (by exact hO1.cellI 0 rfl m hm.1 h1)) ?_
  refine rl_v rfl rfl rfl (ov_mul rfl rfl rfl (by omega)) ?_
  refine rl_v rfl rfl rfl (nv (ov_conv rfl Try.underlying2 Try.underlying90 rfl) (wPos hnn (by omega))) ?_
  refine rl_v rfl rfl rfl (nv (ov_addw rfl rfl rfl) (wAdd (by omega))) ?_
  refine rl_v rfl rfl rfl (ov_assign rfl rfl) <| rl_nil <| run_inBlock <| run_region <| rl_v rfl rfl rfl (ov_add rfl rfl rfl (by omega)) ?_
  refine rl_v rfl rfl rfl (ov_move rfl rfl) <| rl_nil ?_
  refine Run.use (ih8 (m + 1) (s + (max (p m) (-(p m)) * pr m).toNat) _ ?_ ?_) (And.intro (by exact slot_int rfl (by first | omega)) (And.intro (by exact slot_int rfl (by first | omega)) (And.intro rfl (And.intro rfl (And.intro rfl (And.intro rfl trivial))))))
  ·first | omega | (dsimp only; omega)
  ·exact ⟨by omega, by omega, hO1⟩
 ·obtain rfl : m = 12 := by omega
  have hsp := span_rng hp hr.rng (k := 12) (by decide) (by decide)
  have hsr : s * r.rate.toNat ≤ 72000000000000 * 1000 := Nat.mul_le_mul (by omega) (by omega)
  have hcast : ((s * r.rate.toNat : Nat) : Int) = spanF p pr * r.rate := by rw [Int.natCast_mul, hs, Int.toNat_of_nonneg hrt.1]; rfl
  refine run_exit rfl <| run_seq <| run_region <| rl_v rfl rfl rfl (ov_move rfl rfl) <| rl_v rfl rfl rfl (ov_move rfl rfl) <| rl_v rfl rfl rfl (ov_nil rfl rfl) <| rl_v rfl rfl rfl (ov_fieldS rfl Try.underlying124 rfl (fo := 14) rfl (by kernel_rfl) rfl) ?_
  refine rl_v rfl rfl rfl (ov_load rfl Try.underlying2 rfl rfl (by exact hO1.cellL (k + 2) hk (off := 14) rfl)) ?_
  refine rl_v rfl rfl rfl (nv (ov_conv rfl Try.underlying2 Try.underlying90 rfl) (wPos hrt.1 (by omega))) ?_
  refine rl_call callable_126 rfl rfl rfl rfl rfl rfl (mul64_any s r.rate.toNat w7 (by omega) (by omega)) (fun e9 w10 hp11 => ?_)
  obtain ⟨rfl, hw⟩ := hp11
  refine ⟨_, rfl, ?_⟩
  subst hw
  refine rl_v rfl rfl rfl (ov_move rfl rfl) <| rl_v rfl rfl rfl (ov_extract rfl rfl (by rfl)) ?_
  refine rl_v rfl rfl rfl (ov_extract rfl rfl (by rfl)) ?_
  refine rl_v rfl rfl rfl (ov_assign rfl rfl) <| rl_v rfl rfl rfl (ov_assign rfl rfl) <| rl_nil <| run_seq <| run_region <| rl_v rfl rfl rfl (ov_move rfl rfl) <| rl_v rfl rfl rfl (ov_add64 (b := 999) rfl rfl rfl rfl rfl) <| rl_v rfl rfl rfl (ov_move rfl rfl) <| rl_v rfl rfl rfl (ov_extract rfl rfl (by rfl)) ?_
  refine rl_v rfl rfl rfl (ov_extract rfl rfl (by rfl)) ?_
  refine rl_v rfl rfl rfl (ov_assign rfl rfl) <| rl_v rfl rfl rfl (ov_assign rfl rfl) <| rl_nil <| run_seq <| run_region <| rl_v rfl rfl rfl (ov_move rfl rfl) <| rl_v rfl rfl rfl (ov_move rfl rfl) <| rl_v rfl rfl rfl (nv (ov_addw rfl rfl rfl) (wAdd (by omega))) ?_
  refine rl_v rfl rfl rfl (ov_move rfl rfl) ?_
  refine rl_call callable_128 rfl rfl rfl rfl rfl rfl (div64_any (s * r.rate.toNat / 18446744073709551616 + (s * r.rate.toNat % 18446744073709551616 + 999) / 18446744073709551616) ((s * r.rate.toNat % 18446744073709551616 + 999) % 18446744073709551616) 1000 w10 (by omega) (by omega) (by omega)) (fun e12 w13 hp14 => ?_)
  obtain ⟨rfl, hbl⟩ := hp14
  refine ⟨_, rfl, ?_⟩
  have hO15 := hO1.past hbl
  have eq : ((((s * r.rate.toNat / 18446744073709551616 + (s * r.rate.toNat % 18446744073709551616 + 999) / 18446744073709551616) * 18446744073709551616 + (s * r.rate.toNat % 18446744073709551616 + 999) % 18446744073709551616) / 1000 : Nat) : Int) = (spanF p pr * r.rate + 999) / 1000 := by
   rw [← hcast]
   omega
  refine rl_v rfl rfl rfl (ov_move rfl rfl) <| rl_v rfl rfl rfl (ov_extract rfl rfl (by rfl)) ?_
  refine rl_v rfl rfl rfl (ov_extract rfl rfl (by rfl)) ?_
  refine rl_v rfl rfl rfl (ov_assign rfl rfl) <| rl_v rfl rfl rfl (ov_assign rfl rfl) <| rl_nil <| run_seq <| run_region <| rl_v rfl rfl rfl (ov_move rfl rfl) <| rl_v rfl rfl rfl (ov_loadA rfl Try.underlying118 rfl (by kernel_rfl) rfl hO15 1 rfl) ?_
  refine rl_call callable_88 rfl rfl rfl rfl rfl rfl (losses_any hb B (k + 2) r mv p _ w0 w13 hO15 hk hmv.cons.cons hB hp) (fun e16 w17 hp18 => ?_)
  obtain ⟨v, c, rfl, hrl, hOl⟩ := hp18
  refine ⟨_, rfl, ?_⟩
  obtain ⟨al, xl, rfl⟩ := hrl.val
  refine rl_call callable_129 rfl rfl rfl rfl rfl rfl (greatest_any al r.mn xl B (lossF mv p) _ w0 w17 hOl (fun _ _ _ hO => hrl.reads hO 0 rfl) (by have := hB.mn; omega)) (fun e19 w20 hp21 => ?_)
  obtain ⟨rfl, hw⟩ := hp21
  refine ⟨_, rfl, ?_⟩
  subst hw
  have hmx := mxF_nonneg (lossF mv p) r.mn
  have hmx2 := mxF_le (f := lossF mv p) (M := 24000000000000) (by decide) r.mn fun i i0 i1 => (lossF_rng hp (hB.mv i i0 i1)).2
  have hq0 : 0 ≤ (spanF p pr * r.rate + 999) / 1000 ∧ (spanF p pr * r.rate + 999) / 1000 ≤ 72000000001000 := by rw [← hcast]; omega
  refine rl_v rfl rfl rfl (ov_move rfl rfl) <| rl_v rfl rfl rfl (nv (ov_conv rfl Try.underlying90 Try.underlying2 rfl) (iPos eq (by omega) hq0.1)) ?_
  refine rl_v rfl rfl rfl (ov_add rfl rfl rfl (by omega)) ?_
  refine rl_v rfl rfl rfl (ov_assign rfl rfl) <| rl_nil <| run_ret Try.func89 (res1 Try.results89 rfl) ?_
  exact ⟨rfl, hOl.tail.tail.tail⟩
end Go.Proofs.Ytfbbagnpdfafjaa
