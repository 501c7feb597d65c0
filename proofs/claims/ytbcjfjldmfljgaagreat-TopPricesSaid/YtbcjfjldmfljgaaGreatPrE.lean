import Derived.Test.YtbcjfjldmfljgaaGreatPrD
set_option maxRecDepth 100000
namespace Go.Proofs.YtbcjfjldmfljgaaGreat
open Go.RowKit Go.Proofs Go.MapKept
theorem pick_upto {p : Int → Prop} : ∀ n : Nat, (∀ i : Int, 0 ≤ i → i < n → p i) → Pick p n n (fun i => i)
 | 0, _ => Pick.nil _ _
 | n + 1, h => by
  have h1 := (pick_upto n fun i i0 i1 => h i i0 (by omega)).yes (h n (by omega) (by omega))
  have e : upd (fun i : Int => i) n n = fun i => i := by
   funext i
   unfold upd
   split
   ·omega
   ·rfl
  rw [e] at h1
  exact h1
set_option maxHeartbeats 4000000 in
theorem deleteZ_any (dg : Nat) (hcl : Callable Tryz.prog dg) (caps : Array Value) (z : Zns) (D : Int → Bool) (B : Nat) (w0 w : World) (H : List (Option Blk)) (c : Option Blk) (va : Option Addr) (vc : Nat) (hn : z.n ≤ 1000) (hD : DelZ dg caps z D B w0 H) (hr : SRow (.slice va z.n vc) 69 4 z.n (znF z) c) (hO : Own B w0 w (c :: H)) :
  Calls Tryz.prog 69 #[.slice va z.n vc, .func (.func dg) #[] caps] w fun e w' => ∃ (m : Nat) (I : Int → Int) (c' : Option Blk), e = .returned (.slice va m vc) ∧ Pick (fun i => D i = false) z.n m I ∧ SRow (.slice va m vc) 69 4 m (znF (z.sel m I)) c' ∧ Own B w0 w' (c' :: H) := by
 obtain ⟨vb, hvb⟩ := hr.addr
 refine calls_of_run (F := [(0, _), (1, _)]) Tryz.func69 rfl Tryz.ntmps69 rfl rfl ?_
 have hO0 := Own.init w
 refine run_seq <| run_region <| rl_v rfl rfl rfl (ov_assign rfl rfl) <| rl_nil <| run_seq <| run_region <| rl_v rfl rfl rfl (ov_move rfl rfl) <| rl_v rfl rfl rfl (ov_move rfl rfl) ?_
 refine rl_call callable_86 rfl rfl rfl rfl rfl rfl (indexZ_any dg hcl caps z D B w0 _ H c va vc hn hD hr hO) (fun e1 w2 hp3 => ?_)
 obtain ⟨r, rfl, hrr, hO1⟩ := hp3
 refine ⟨_, rfl, ?_⟩
 refine rl_v rfl rfl rfl (ov_assign rfl rfl) <| rl_nil <| run_seq <| run_seq <| run_region <| rl_v rfl rfl rfl (ov_move rfl rfl) <| rl_v rfl rfl rfl (ov_eql rfl rfl rfl) <| rl_nil ?_
 first | refine run_cond_dec rfl (fun c1 => ?_) (fun c1 => ?_) | refine run_cond rfl (fun c1 => ?_) (fun c1 => ?_)
 ·have hall : ∀ i : Int, 0 ≤ i → i < z.n → D i = false := by
   rcases hrr with q | q
   ·exact q.2
   ·omega
  refine run_seq <| run_region <| rl_v rfl rfl rfl (ov_move rfl rfl) <| rl_v rfl rfl rfl (ov_assign rfl rfl) <| rl_nil <| run_ret Tryz.func69 (res1 Tryz.results69 rfl) ?_
  exact ⟨z.n, fun i => i, c, rfl, pick_upto z.n hall, hr, hO1⟩
 ·obtain ⟨hr0, hDr, hlo⟩ := hrr.resolve_left fun q => c1 q.1
  obtain ⟨u, rfl⟩ := Int.eq_ofNat_of_zero_le hr0.1
  have hP0 : Pick (fun i => D i = false) u u (fun i => i) := pick_upto u hlo
  have hP1 : Pick (fun i => D i = false) (u + 1) u (fun i => i) := hP0.no (by show ¬ D u = false; rw [hDr]; exact fun q => Bool.noConfusion q)
  refine run_skip <| run_seq <| run_seq <| run_region <| rl_v rfl rfl rfl (ov_move rfl rfl) <| rl_v rfl rfl rfl (ov_add rfl rfl rfl (by omega)) ?_
  refine rl_v rfl rfl rfl (ov_assign rfl rfl) <| rl_nil <| run_block <| Run.keep [0, 1, 5, 6] (F' := [(0, _), (1, _), (5, _), (6, _)]) rfl <| run_loop2 (fun (j : Nat) (q : Nat) => [(6, .int .i64 (j : Int)), (5, .int .i64 (q : Int))]) [0, 1] (fun (j : Nat) (q : Nat) (w4 : World) => (1 ≤ j ∧ j ≤ z.n) ∧ ∃ (I J : Int → Int) (c2 : Option Blk), Pick (fun i => D i = false) j q I ∧ q < j ∧ (∀ k : Int, 0 ≤ k → k < q → J k = I k) ∧ (∀ k : Int, (j : Int) ≤ k → k < z.n → J k = k) ∧ SRow (.slice va z.n vc) 69 4 z.n (znF (z.sel z.n J)) c2 ∧ Own B w0 w4 (c2 :: H)) (fun (j : Nat) (q : Nat) => z.n - j) (u + 1) (u) ?_ (And.intro (by exact slot_int rfl (by first | omega)) (And.intro (by exact slot_int rfl (by first | omega)) (And.intro rfl (And.intro rfl trivial)))) ?_
  ·exact ⟨by omega, fun i => i, fun i => i, c, hP1, by omega, fun _ _ _ => rfl, fun _ _ _ => rfl, hr, hO1⟩
  intro j q w4 hIw4 ih5
  obtain ⟨hj, I, J, c2, hP, hq, hG1, hG2, hr2, hO2⟩ := hIw4
  show Run _ _ _ _ [(6, _), (5, _), (0, _), (1, _)] _ _
  refine run_seq <| run_seq <| run_region <| rl_v rfl rfl rfl (ov_move rfl rfl) <| rl_v rfl rfl rfl (ov_move rfl rfl) <| rl_v rfl rfl rfl (ov_len rfl Tryz.underlying66 rfl) <| rl_v rfl rfl rfl (ov_lss rfl rfl rfl) <| rl_nil ?_
  first | refine run_cond_dec rfl (fun c3 => ?_) (fun c3 => ?_) | refine run_cond rfl (fun c3 => ?_) (fun c3 => ?_)
  ·have hgj := hG2 j (by omega) c3
   have hzj : znF (z.sel z.n J) j = znF z j := by unfold znF Zns.sel; dsimp only; rw [hgj]
   refine run_skip <| run_seq <| run_block <| run_seq <| run_region <| rl_v rfl rfl rfl (ov_move rfl rfl) <| rl_v rfl rfl rfl (ov_move rfl rfl) <| rl_v rfl rfl rfl (ov_index rfl Tryz.underlying66 (by kernel_rfl) (s := 4) rfl rfl ⟨by omega, by omega⟩ (by exact hvb (by omega))) ?_
   refine rl_v rfl rfl rfl (ov_loadE rfl Tryz.underlying69 rfl (by kernel_rfl) rfl ⟨by omega, by omega⟩ rfl ((hr2.cellU hO2 0 rfl (hvb (by omega))))) ?_
   refine rl_ow rfl (ow_alloc _ rfl rfl rfl zero_69 rfl hO2) ?_
   rintro _ w6 ⟨x7, rfl, hO7, hs8⟩
   refine rl_ow rfl (ow_storeW rfl rfl (by kernel_rfl) hO7 0 rfl rfl (by rfl) rfl (by rfl)) ?_
   rintro _ w9 ⟨rfl, hO10, hs11⟩
   have hO3 : Own B w0 w9 (some (lch x7 69 (znF z j)) :: c2 :: H) := by
    rw [← hzj]
    exact hO10
   refine rl_nil <| run_seq <| run_region <| rl_v rfl rfl rfl (ov_move rfl rfl) <| rl_v rfl rfl rfl (ov_loadW rfl Tryz.underlying69 rfl (by kernel_rfl) rfl hO3 0 rfl) ?_
   refine rl_call hcl rfl rfl rfl rfl rfl rfl (hD j c2 _ (by omega) c3 hO3.tail) (fun e12 w13 hp14 => ?_)
   obtain ⟨rfl, hOa⟩ := hp14
   refine ⟨_, rfl, ?_⟩
   have hO15 := hO3.join hOa
   refine rl_v rfl rfl rfl (ov_not rfl rfl) <| rl_nil ?_
   first | refine run_cond_dec rfl (fun c4 => ?_) (fun c4 => ?_) | refine run_cond rfl (fun c4 => ?_) (fun c4 => ?_)
   ·have hDj : D j = false := by simpa using c4
    refine run_seq <| run_region <| rl_v rfl rfl rfl (ov_move rfl rfl) <| rl_v rfl rfl rfl (ov_move rfl rfl) <| rl_v rfl rfl rfl (ov_loadW rfl Tryz.underlying69 rfl (by kernel_rfl) rfl hO15 0 rfl) ?_
    refine rl_v rfl rfl rfl (ov_index rfl Tryz.underlying66 (by kernel_rfl) (s := 4) rfl rfl ⟨by omega, by omega⟩ (by exact hvb (by omega))) ?_
    refine rl_ow rfl (ow_storeS rfl rfl (by kernel_rfl) hO15 hr2 (kk := 1) rfl (fun _ => hvb (by omega)) rfl ⟨by omega, by omega⟩ rfl rfl rfl) ?_
    rintro _ w16 ⟨c5, rfl, hO17, hR5, hs18⟩
    have hR6 : SRow (.slice va z.n vc) 69 4 z.n (znF (z.sel z.n (upd J q j))) c5 := hR5.congr fun k _ _ => by
     by_cases e : k = q
     ·rw [e, upd_same]; unfold znF Zns.sel; dsimp only; rw [upd_same]
     ·rw [upd_ne _ _ e]; unfold znF Zns.sel; dsimp only; rw [upd_ne _ _ e]
    refine rl_nil <| run_region <| rl_v rfl rfl rfl (ov_move rfl rfl) <| rl_v rfl rfl rfl (ov_add rfl rfl rfl (by omega)) ?_
    refine rl_v rfl rfl rfl (ov_assign rfl rfl) <| rl_nil <| run_inBlock <| run_region <| rl_v rfl rfl rfl (ov_move rfl rfl) <| rl_v rfl rfl rfl (ov_add rfl rfl rfl (by omega)) ?_
    refine rl_v rfl rfl rfl (ov_assign rfl rfl) <| rl_nil ?_
    refine Run.use (ih5 (j + 1) (q + 1) _ ?_ ?_) (And.intro (by exact slot_int rfl (by first | omega)) (And.intro (by exact slot_int rfl (by first | omega)) (And.intro rfl (And.intro rfl trivial))))
    ·first | omega | (dsimp only; omega)
    ·exact ⟨by omega, _, _, c5, hP.yes hDj, by omega, fun k k0 k1 => by unfold upd; split; rfl; exact hG1 k k0 (by omega), fun k k0 k1 => by rw [upd_ne _ _ (by omega)]; exact hG2 k (by omega) k1, hR6, hO17.tail⟩
   ·have hDj : ¬ D j = false := by simpa using c4
    refine run_skip <| run_inBlock <| run_region <| rl_v rfl rfl rfl (ov_move rfl rfl) <| rl_v rfl rfl rfl (ov_add rfl rfl rfl (by omega)) ?_
    refine rl_v rfl rfl rfl (ov_assign rfl rfl) <| rl_nil ?_
    refine Run.use (ih5 (j + 1) (q) _ ?_ ?_) (And.intro (by exact slot_int rfl (by first | omega)) (And.intro (by exact slot_int rfl (by first | omega)) (And.intro rfl (And.intro rfl trivial))))
    ·first | omega | (dsimp only; omega)
    ·exact ⟨by omega, I, J, c2, hP.no hDj, by omega, hG1, fun k k0 k1 => hG2 k (by omega) k1, hr2, hO15.tail⟩
  ·have hjn : j = z.n := by omega
   rw [hjn] at hP
   have hqn : q < z.n := by omega
   rcases hr2 with ⟨_, h0, _⟩ | ⟨b9, cap9, g9, e9, h91, h92, rfl, h93⟩
   ·omega
   injection e9 with e91 _ e92
   subst e91
   subst e92
   refine run_exit rfl <| run_seq <| run_region <| rl_v rfl rfl rfl (ov_move rfl rfl) <| rl_v rfl rfl rfl (ov_move rfl rfl) <| rl_v rfl rfl rfl (ov_sliceL rfl Tryz.underlying66 (by kernel_rfl) (s := 4) rfl rfl ⟨by omega, by omega⟩ (by omega) rfl) ?_
   refine rl_ow rfl (ow_clear rfl rfl Tryz.underlying66 info_69 (by rfl) rfl (by decide) hO2 0 rfl rfl rfl (show 0 + (q : Int).toNat * 4 + (z.n - (q : Int).toNat) * 4 ≤ vc * 4 by omega)) ?_
   rintro _ w19 ⟨rfl, f9, hf9, hO20, hs21⟩
   have hse : ∀ k : Nat, k < q * 4 → (znF (z.sel z.n J) ((k / 4 : Nat) : Int)).getD (k % 4) undef = (znF (z.sel q I) ((k / 4 : Nat) : Int)).getD (k % 4) undef := fun k hk => by
    have e : J ((k / 4 : Nat) : Int) = I ((k / 4 : Nat) : Int) := hG1 _ (by omega) (by omega)
    unfold znF Zns.sel
    dsimp only
    rw [e]
   refine rl_nil <| run_seq <| run_region <| rl_v rfl rfl rfl (ov_move rfl rfl) <| rl_v rfl rfl rfl (ov_move rfl rfl) <| rl_v rfl rfl rfl (ov_sliceH (q) (s := 4) rfl Tryz.underlying66 (by kernel_rfl) rfl rfl (by rfl) (by omega)) ?_
   refine rl_v rfl rfl rfl (ov_assign rfl rfl) <| rl_nil <| run_ret Tryz.func69 (res1 Tryz.results69 rfl) ?_
   exact ⟨q, I, _, rfl, hP, .inr ⟨b9, vc, f9, rfl, by omega, h92, rfl, fun k hk => (hf9 k (by omega)).trans ((h93 k (by omega)).trans (hse k hk))⟩, hO20⟩
theorem Own.cellOld {B : Nat} {w0 w : World} {H : List (Option Blk)} (h : Own B w0 w H) (k : Nat) {b : Nat} {t : TypeId} {vs : List Value} (hk : H[k]? = some (some (lch b t vs))) {off : Nat} {v : Value} (hv : vs[off]? = some v) : ∀ w', Below w.heap.size w w' → w'.cell? ⟨b, off, none⟩ = some v := fun w' hb =>
 (hb.cell (p := ⟨b, off, none⟩) (h.lt k hk)).trans (h.cellL k hk hv)
def FunZ (gf : Nat) (z : Zns) (F : Int → Int) : Prop := ∀ (i : Int) (w : World), 0 ≤ i → i < z.n → Calls Tryz.prog gf (#[.agg (znF z i).toArray] ++ #[]) w fun e w' => e = .returned (iv (F i)) ∧ Own w.heap.size w w' []
theorem kept1_any (gf : Nat) (hcl : Callable Tryz.prog gf) (z : Zns) (F : Int → Int) (hF : FunZ gf z F) (b3 b5 : Nat) (l : Int) (B : Nat) (w0 : World) (H : List (Option Blk)) :
  DelZ 71 #[ptr b3, ptr b5] z (fun i => decide (F i ≠ l)) B w0 (some (lch b5 2 [iv l]) :: some (lch b3 71 [.func (.func gf) #[] #[]]) :: H) := fun i c w i0 i1 hO => by
 have h5 := hO.cellOld 1 rfl (off := 0) rfl
 have h3 := hO.cellOld 2 rfl (off := 0) rfl
 refine calls_of_run (F := [(0, _), (1, _), (2, _)]) Tryz.func71 rfl Tryz.ntmps71 rfl rfl ?_
 have hO0 := Own.init w
 refine run_seq <| run_region <| rl_ow rfl (ow_box _ rfl rfl rfl rfl rfl hO0) ?_
 rintro _ w1 ⟨x3, rfl, hO2, hs3⟩
 have hO2 : Own w.heap.size w w1 [some (lch x3 69 (znF z i))] := hO2
 refine rl_v rfl rfl rfl (ov_assign rfl rfl) <| rl_nil <| run_seq <| run_class (ClU w.heap.size w [some (lch x3 69 (znF z i))]) (⟨hO2.drew⟩) mixed (by kernel_rfl) ?_
 refine rk_v rfl rfl rfl (fun wq hQ => ov_load rfl Tryz.underlying71 rfl rfl (by exact h3 _ (hQ.own).below)) ?_
 refine rk_v rfl rfl rfl (fun wq hQ => ov_loadW rfl Tryz.underlying69 rfl (by kernel_rfl) rfl (hQ.own) 0 rfl) ?_
 refine rk_call hcl rfl rfl rfl rfl rfl rfl (fun wq hQ => (hF i wq i0 i1).mono fun _ _ h => ⟨h.1, ⟨((hQ.own).join h.2)⟩⟩) ?_
 refine rk_v rfl rfl rfl (fun wq hQ => ov_load rfl Tryz.underlying2 rfl rfl (by exact h5 _ (hQ.own).below)) ?_
 refine rk_v rfl rfl rfl (fun wq hQ => ov_neq rfl rfl rfl) ?_
 refine rk_v rfl rfl rfl (fun wq hQ => ov_assign rfl rfl) ?_
 refine rk_nil (fun w7 hQ => ?_)
 refine run_ret Tryz.func71 (res1 Tryz.results71 rfl) ?_
 exact ⟨rfl, (hQ.own).tail⟩
set_option maxHeartbeats 4000000 in
theorem kept_any (gf : Nat) (hcl : Callable Tryz.prog gf) (z : Zns) (F : Int → Int) (hF : FunZ gf z F) (hFr : ∀ i : Int, 0 ≤ i → i < z.n → -1000000000 ≤ F i ∧ F i ≤ 1000000000) (la : Option Addr) (lc : Nat) (w : World) (hn : 1 ≤ z.n ∧ z.n ≤ 1000) (hl : SAt w.heap.size w la 4 z.n (znF z)) :
  Calls Tryz.prog 44 #[.slice la z.n lc, .func (.func gf) #[] #[]] w fun e w' => ∃ (l : Int) (va : Option Addr) (vc m : Nat) (I : Int → Int) (c : Option Blk), e = .returned (.slice va m vc) ∧ ((∀ i : Int, 0 ≤ i → i < z.n → l ≤ F i) ∧ ∃ i : Int, (0 ≤ i ∧ i < z.n) ∧ F i = l) ∧ Pick (fun i => F i = l) z.n m I ∧ SRow (.slice va m vc) 69 4 m (znF (z.sel m I)) c ∧ Own w.heap.size w w' [c] := by
 obtain ⟨lb, lo, hla, hlr⟩ := hl.open (by decide)
 refine calls_of_run (F := [(0, _), (1, _)]) Tryz.func44 rfl Tryz.ntmps44 rfl rfl ?_
 have hO0 := Own.init w
 refine run_seq <| run_region <| rl_ow rfl (ow_box _ rfl rfl rfl rfl rfl hO0) ?_
 rintro _ w1 ⟨b3, rfl, hO2, hs3⟩
 have hOb : Own w.heap.size w w1 [some (lch b3 71 [.func (.func gf) #[] #[]])] := hO2
 refine rl_v rfl rfl rfl (ov_assign rfl rfl) <| rl_nil <| run_seq <| Run.keep [0, 3] (F' := [(0, _), (3, _)]) rfl <| run_join1 (fun (b5 : Nat) => [(5, ptr b5)]) [0, 3] (fun (b5 : Nat) (w4 : World) => Own w.heap.size w w4 [some (lch b5 2 [iv (F 0)]), some (lch b3 71 [.func (.func gf) #[] #[]])]) (fun hk5 => ?_) ?_
 ·refine run_late (fun w' => Own w.heap.size w w' ([some (lch b3 71 [.func (.func gf) #[] #[]])])) 6 mixed ?_
  have hO7 := hOb.drew
  generalize World.drew w1 = w6 at hO7 ⊢
  have hS8 : Own w.heap.size w w6 ([some (lch b3 71 [.func (.func gf) #[] #[]])]) := by first | exact hO7 | exact hO7.tail
  refine rhl_v 0 rfl (by kernel_rfl) rfl rfl rfl hS8 (fun _ hS => ov_load rfl Tryz.underlying71 rfl rfl (by exact hS.cellL 0 rfl (off := 0) rfl)) ?_
  refine rhl_v 1 rfl (by kernel_rfl) rfl rfl rfl hS8 (fun _ hS => ov_move rfl rfl) ?_
  refine rhl_v 2 rfl (by kernel_rfl) rfl rfl rfl hS8 (fun _ hS => ov_index rfl Tryz.underlying66 (by kernel_rfl) (s := 4) rfl rfl ⟨by omega, by omega⟩ (by exact hla (by omega))) ?_
  refine rhl_v 3 rfl (by kernel_rfl) rfl rfl rfl hS8 (fun _ hS => ov_loadE rfl Tryz.underlying69 rfl (by kernel_rfl) rfl ⟨by omega, by omega⟩ rfl ((hlr _ hS.below))) ?_
  refine rhl_any2 4 5 (by kernel_rfl) ?_ ?_
  ·refine rcl_op rfl rfl (ow_call2 hcl rfl rfl rfl rfl rfl (hF 0 _ (by omega) (by omega)) (by intro e w' hp; obtain ⟨rfl, hOa⟩ := hp; exact ⟨_, rfl⟩)) ?_
   rintro _ w11 ⟨_, v9, he12, rfl, hp10⟩
   obtain ⟨rfl, hOa⟩ := hp10
   injection he12 with he12; subst he12
   have hO13 := hO7.join hOa
   have hS14 : Own w.heap.size w w11 ([some (lch b3 71 [.func (.func gf) #[] #[]])]) := by first | exact hO13 | exact hO13.tail
   refine ⟨hS14, ?_⟩
   refine rhl_any1 5 (by kernel_rfl) ?_
   refine rcl_op rfl rfl (ow_alloc _ rfl rfl rfl zero_2 rfl hO13) ?_
   rintro _ w15 ⟨b5, rfl, hO16, hs17⟩
   have hS18 : Own w.heap.size w w15 ([some (lch b3 71 [.func (.func gf) #[] #[]])]) := by first | exact hO16 | exact hO16.tail
   refine ⟨hS18, ?_⟩
   refine rhl_any1 6 (by kernel_rfl) ?_
   refine rcl_last rfl rfl (ow_storeL rfl rfl (by kernel_rfl) hO16 0 rfl rfl rfl rfl rfl) ?_
   rintro _ w19 ⟨rfl, hO20, hs21⟩
   refine rhl_done (by kernel_rfl) ?_
   refine Run.use (hk5 (b5) _ ?_) (And.intro rfl (And.intro rfl (And.intro rfl trivial)))
   exact hO20
  ·refine rcl_op rfl rfl (ow_alloc _ rfl rfl rfl zero_2 rfl hO7) ?_
   rintro _ w22 ⟨b5, rfl, hO23, hs24⟩
   have hS25 : Own w.heap.size w w22 ([some (lch b3 71 [.func (.func gf) #[] #[]])]) := by first | exact hO23 | exact hO23.tail
   refine ⟨hS25, ?_⟩
   refine rhl_any1 4 (by kernel_rfl) ?_
   refine rcl_op rfl rfl (ow_call2 hcl rfl rfl rfl rfl rfl (hF 0 _ (by omega) (by omega)) (by intro e w' hp; obtain ⟨rfl, hOa⟩ := hp; exact ⟨_, rfl⟩)) ?_
   rintro _ w28 ⟨_, v26, he29, rfl, hp27⟩
   obtain ⟨rfl, hOa⟩ := hp27
   injection he29 with he29; subst he29
   have hO30 := hO23.join hOa
   have hS31 : Own w.heap.size w w28 ([some (lch b3 71 [.func (.func gf) #[] #[]])]) := by first | exact hO30 | exact hO30.tail
   refine ⟨hS31, ?_⟩
   refine rhl_any1 6 (by kernel_rfl) ?_
   refine rcl_last rfl rfl (ow_storeL rfl rfl (by kernel_rfl) hO30 0 rfl rfl rfl rfl rfl) ?_
   rintro _ w32 ⟨rfl, hO33, hs34⟩
   refine rhl_done (by kernel_rfl) ?_
   refine Run.use (hk5 (b5) _ ?_) (And.intro rfl (And.intro rfl (And.intro rfl trivial)))
   exact hO33
 ·intro b5 w4 hJw4
  have hO5 := hJw4
  show Run _ _ _ _ [(5, _), (0, _), (3, _)] _ _
  refine run_seq <| run_seq <| run_region <| rl_v rfl rfl rfl (ov_move rfl rfl) <| rl_v rfl rfl rfl (ov_len rfl Tryz.underlying66 rfl) <| rl_v rfl rfl rfl (ov_move rfl rfl) <| rl_nil <| run_block <| Run.keep [0, 3, 5, 13, 14, 15] (F' := [(0, _), (3, _), (5, _), (13, _), (14, _), (15, _)]) rfl <| run_loop2 (fun (i : Nat) (l : Int) => [(15, .int .i64 (i : Int))]) [0, 3, 5, 13, 14] (fun (i : Nat) (l : Int) (w35 : World) => i ≤ z.n ∧ (∀ j : Int, 0 ≤ j → j < i → l ≤ F j) ∧ (∃ j : Int, (0 ≤ j ∧ j < z.n) ∧ F j = l) ∧ Own w.heap.size w w35 [some (lch b5 2 [iv l]), some (lch b3 71 [.func (.func gf) #[] #[]])]) (fun (i : Nat) (l : Int) => z.n - i) (0) (F 0) ?_ (And.intro (by exact slot_int rfl (by first | omega)) (And.intro rfl (And.intro rfl (And.intro rfl (And.intro rfl (And.intro rfl trivial)))))) ?_
  ·exact ⟨Nat.zero_le _, fun j a b => by omega, ⟨0, by omega, rfl⟩, hO5⟩
  intro i l w35 hIw35 ih36
  obtain ⟨hi, hlo, hex, hO1⟩ := hIw35
  show Run _ _ _ _ [(15, _), (0, _), (3, _), (5, _), (13, _), (14, _)] _ _
  refine run_seq <| run_region <| rl_v rfl rfl rfl (ov_lss rfl rfl rfl) <| rl_nil <| run_seq ?_
  first | refine run_cond_dec rfl (fun c1 => ?_) (fun c1 => ?_) | refine run_cond rfl (fun c1 => ?_) (fun c1 => ?_)
  ·refine run_skip <| run_seq <| run_block <| run_seq <| run_region <| rl_v rfl rfl rfl (ov_index rfl Tryz.underlying66 (by kernel_rfl) (s := 4) rfl rfl ⟨by omega, by omega⟩ (by exact hla (by omega))) ?_
   refine rl_v rfl rfl rfl (ov_loadE rfl Tryz.underlying69 rfl (by kernel_rfl) rfl ⟨by omega, by omega⟩ rfl ((hlr _ hO1.below))) ?_
   refine rl_ow rfl (ow_alloc _ rfl rfl rfl zero_69 rfl hO1) ?_
   rintro _ w37 ⟨x7, rfl, hO38, hs39⟩
   refine rl_ow rfl (ow_storeW rfl rfl (by kernel_rfl) hO38 0 rfl rfl (by rfl) rfl (by rfl)) ?_
   rintro _ w40 ⟨rfl, hO41, hs42⟩
   have hO2 : Own w.heap.size w w40 [some (lch x7 69 (znF z i)), some (lch b5 2 [iv l]), some (lch b3 71 [.func (.func gf) #[] #[]])] := hO41
   refine rl_nil <| run_late (fun w' => Own w.heap.size w w' ([some (lch x7 69 (znF z i)), some (lch b5 2 [iv l]), some (lch b3 71 [.func (.func gf) #[] #[]])])) 5 mixed ?_
   have hO44 := hO2.drew
   generalize World.drew w40 = w43 at hO44 ⊢
   have hS45 : Own w.heap.size w w43 ([some (lch x7 69 (znF z i)), some (lch b5 2 [iv l]), some (lch b3 71 [.func (.func gf) #[] #[]])]) := by first | exact hO44 | exact hO44.tail | exact hO44.tail.tail | exact hO44.tail.tail.tail
   refine rhl_v 0 rfl (by kernel_rfl) rfl rfl rfl hS45 (fun _ hS => ov_load rfl Tryz.underlying2 rfl rfl (by exact hS.cellL 1 rfl (off := 0) rfl)) ?_
   refine rhl_v 1 rfl (by kernel_rfl) rfl rfl rfl hS45 (fun _ hS => ov_load rfl Tryz.underlying71 rfl rfl (by exact hS.cellL 2 rfl (off := 0) rfl)) ?_
   refine rhl_v 2 rfl (by kernel_rfl) rfl rfl rfl hS45 (fun _ hS => ov_loadW rfl Tryz.underlying69 rfl (by kernel_rfl) rfl hS 0 rfl) ?_
   refine rhl_any1 3 (by kernel_rfl) ?_
   refine rcl_op rfl rfl (ow_call2 hcl rfl rfl rfl rfl rfl (hF i _ (by omega) c1) (by intro e w' hp; obtain ⟨rfl, hOa⟩ := hp; exact ⟨_, rfl⟩)) ?_
   rintro _ w48 ⟨_, v46, he49, rfl, hp47⟩
   obtain ⟨rfl, hOa⟩ := hp47
   injection he49 with he49; subst he49
   have hO50 := hO44.join hOa
   have hS51 : Own w.heap.size w w48 ([some (lch x7 69 (znF z i)), some (lch b5 2 [iv l]), some (lch b3 71 [.func (.func gf) #[] #[]])]) := by first | exact hO50 | exact hO50.tail | exact hO50.tail.tail | exact hO50.tail.tail.tail
   refine ⟨hS51, ?_⟩
   refine rhl_v 4 rfl (by kernel_rfl) rfl rfl rfl hS51 (fun _ hS => ov_min rfl rfl rfl) ?_
   refine rhl_any1 5 (by kernel_rfl) ?_
   refine rcl_last rfl rfl (ow_storeL rfl rfl (by kernel_rfl) hO50 1 rfl rfl rfl rfl rfl) ?_
   rintro _ w52 ⟨rfl, hO53, hs54⟩
   have hFi := hFr i (by omega) c1
   refine rhl_done (by kernel_rfl) ?_
   refine run_inBlock <| run_region <| rl_v rfl rfl rfl (ov_add rfl rfl rfl (by omega)) ?_
   refine rl_v rfl rfl rfl (ov_move rfl rfl) <| rl_nil ?_
   refine Run.use (ih36 (i + 1) (min l (F i)) _ ?_ ?_) (And.intro (by exact slot_int rfl (by first | omega)) (And.intro rfl (And.intro rfl (And.intro rfl (And.intro rfl (And.intro rfl trivial))))))
   ·first | omega | (dsimp only; omega)
   ·exact ⟨by omega, fun j j0 j1 => by by_cases e : j = i; (rw [e]; omega); (have := hlo j j0 (by omega); omega), by (obtain ⟨x, hx, e⟩ := hex; by_cases d : l ≤ F i; exact ⟨x, hx, by rw [e]; omega⟩; exact ⟨i, ⟨by omega, c1⟩, by omega⟩), hO53.tail⟩
  ·have hin : i = z.n := by omega
   rw [hin] at hlo
   refine run_exit rfl <| run_seq <| run_region <| rl_v rfl rfl rfl (ov_move rfl rfl) ?_
   refine rl_call callable_70 rfl rfl rfl rfl rfl rfl (cloneZ_any la z.n lc z _ (by omega) (hO1.satU hl)) (fun e55 w56 hp57 => ?_)
   obtain ⟨v26, c26, rfl, hr26, hOc⟩ := hp57
   refine ⟨_, rfl, ?_⟩
   have hO58 := hO1.join hOc
   obtain ⟨va, vc, rfl⟩ := Row.val hr26
   refine rl_v rfl rfl rfl (ov_func rfl rfl rfl) ?_
   refine rl_call callable_69 rfl rfl rfl rfl rfl rfl (deleteZ_any 71 callable_71 #[ptr b3, ptr b5] z (fun i => decide (F i ≠ l)) w.heap.size w _ _ c26 va vc hn.2 (kept1_any gf hcl z F hF b3 b5 l w.heap.size w []) hr26 hO58) (fun e59 w60 hp61 => ?_)
   obtain ⟨m, I, c9, rfl, hP, hr9, hO9⟩ := hp61
   refine ⟨_, rfl, ?_⟩
   have hpe : (fun i : Int => decide (F i ≠ l) = false) = fun i => F i = l := funext fun i => propext (by simp)
   have hP2 : Pick (fun i => F i = l) z.n m I := by rw [← hpe]; exact hP
   refine rl_v rfl rfl rfl (ov_assign rfl rfl) <| rl_nil <| run_ret Tryz.func44 (res1 Tryz.results44 rfl) ?_
   exact ⟨l, va, vc, m, I, c9, rfl, ⟨hlo, hex⟩, hP2, hr9, hO9.sub (.cons_cons _ (List.nil_sublist _))⟩
end Go.Proofs.YtbcjfjldmfljgaaGreat
