import Derived.Test.YtlldeifbfpmbaaaGreatNetH
set_option maxRecDepth 100000
namespace Go.Proofs.YtlldeifbfpmbaaaGreat
open Go.RowKit Go.Proofs
theorem settled_any (g : FuncId) (cap : Array Value) (Fx : (Int → Int) → Int → Int) (Pr : (Int → Int) → Prop) (μ : (Int → Int) → Nat) (w : World) (x0 : Int → Int) (hcl : Callable Tryz.prog g)
  (hf : ∀ x w', Below w.heap.size w w' → Pr x → Calls Tryz.prog g (#[arrv 32 (fun i => .int .i64 (x i))] ++ cap) w' fun e w'' => e = .returned (arrv 32 (fun i => .int .i64 (Fx x i))) ∧ Below w'.heap.size w' w'')
  (hP : ∀ x, Pr x → Pr (Fx x)) (hμ : ∀ x, Pr x → (∀ j, j < 32 → x ((j : Nat) : Int) = Fx x j) ∨ μ (Fx x) < μ x) (h0 : Pr x0) :
  Calls Tryz.prog 127 #[arrv 32 (fun i => .int .i64 (x0 i)), .func (.func g) #[] cap] w fun e w' => ∃ x, e = .returned (arrv 32 (fun i => .int .i64 (x i))) ∧ Pr x ∧ (∀ j, j < 32 → x ((j : Nat) : Int) = Fx x j) ∧ Below w.heap.size w w' := by
 refine calls_of_run (F := [(0, _), (1, _)]) Tryz.func127 rfl Tryz.ntmps127 rfl rfl ?_
 have hO0 := Own.init w
 refine run_seq <| run_region <| rl_ow rfl (ow_boxA rfl rfl rfl rfl hO0) ?_
 rintro _ w1 ⟨b2, rfl, hO2, hs3⟩
 refine rl_ow rfl (ow_allocA 32 rfl rfl rfl zero_132 rfl hO2) ?_
 rintro _ w4 ⟨b4, rfl, hO5, hs6⟩
 refine rl_nil <| run_block <| Run.keep [1, 2, 4] (F' := [(1, _), (2, _), (4, _)]) rfl <| run_loop2 (fun (x : Int → Int) (z : Int) => []) [1, 2, 4] (fun (x : Int → Int) (z : Int) (w7 : World) => Pr x ∧ Own w.heap.size w w7 [some (vch b4 132 32 (fun _ => .int .i64 0)), some (vch b2 132 32 (fun i => .int .i64 (x i)))]) (fun (x : Int → Int) (z : Int) => μ x) (x0) (0) ?_ (And.intro rfl (And.intro rfl (And.intro rfl trivial))) ?_
 ·exact ⟨h0, hO5⟩
 intro x z w7 hIw7 ih8
 obtain ⟨hx, hO⟩ := hIw7
 show Run _ _ _ _ [(1, _), (2, _), (4, _)] _ _
 refine run_block <| run_seq <| run_region <| rl_v rfl rfl rfl (ov_move rfl rfl) <| rl_v rfl rfl rfl (ov_loadA rfl Tryz.underlying132 rfl (by kernel_rfl) rfl hO 1 rfl) ?_
 refine rl_call hcl rfl rfl rfl rfl rfl rfl (hf x _ hO.below hx) (fun e9 w10 hp11 => ?_)
 obtain ⟨rfl, hb⟩ := hp11
 refine ⟨_, rfl, ?_⟩
 have hO12 := hO.past hb
 refine rl_ow rfl (ow_allocA 32 rfl rfl rfl zero_132 rfl hO12) ?_
 rintro _ w13 ⟨b5, rfl, hO14, hs15⟩
 refine rl_ow rfl (ow_storeA rfl rfl (by kernel_rfl) hO14 0 rfl rfl rfl (fun _ => rfl)) ?_
 rintro _ w16 ⟨rfl, hO17, hs18⟩
 refine rl_nil <| run_seq <| run_seq <| run_region <| rl_v rfl rfl rfl (ov_loadA rfl Tryz.underlying132 rfl (by kernel_rfl) rfl hO17 2 rfl) ?_
 refine rl_v rfl rfl rfl (ov_loadA rfl Tryz.underlying132 rfl (by kernel_rfl) rfl hO17 0 rfl) ?_
 refine rl_v rfl rfl rfl (ov_eqlA rfl Tryz.underlying132 Tryz.underlying2 (by kernel_rfl) (by kernel_rfl) (by kernel_rfl) rfl rfl) ?_
 refine rl_nil ?_
 first | refine run_cond_dec rfl (fun h1 => ?_) (fun h1 => ?_) | refine run_cond rfl (fun h1 => ?_) (fun h1 => ?_)
 ·refine run_seq <| run_region <| rl_v rfl rfl rfl (ov_loadA rfl Tryz.underlying132 rfl (by kernel_rfl) rfl hO17 2 rfl) ?_
  refine rl_ow rfl (ow_storeA rfl rfl (by kernel_rfl) hO17 1 rfl rfl rfl (fun _ => rfl)) ?_
  rintro _ w19 ⟨rfl, hO20, hs21⟩
  refine rl_nil <| run_ret Tryz.func127 (resA Tryz.results127 rfl Tryz.underlying132 rfl (by kernel_rfl) hO20 1 rfl) ?_
  exact ⟨x, rfl, hx, h1, hO20.below⟩
 ·have hdec := (hμ x hx).resolve_left h1
  refine run_skip <| run_region <| rl_v rfl rfl rfl (ov_loadA rfl Tryz.underlying132 rfl (by kernel_rfl) rfl hO17 0 rfl) ?_
  refine rl_ow rfl (ow_storeA rfl rfl (by kernel_rfl) hO17 2 rfl rfl rfl (fun _ => rfl)) ?_
  rintro _ w22 ⟨rfl, hO23, hs24⟩
  refine rl_nil <| run_inBlock ?_
  refine Run.use (ih8 (Fx x) (0) _ ?_ ?_) (And.intro rfl (And.intro rfl (And.intro rfl trivial)))
  ·first | omega | (dsimp only; omega)
  ·exact ⟨hP x hx, hO23.tail⟩
structure Clr (n : Nat) (D : Int → Int → Int) (cash : Int → Int) (inn : Int → Bool) (p : Int → Int) : Prop where
 rng : ∀ i : Int, 0 ≤ i → i < n → 0 ≤ p i ∧ p i ≤ ow n D i
 out : ∀ i : Int, n ≤ i → i < 32 → p i = 0
 off : ∀ i : Int, 0 ≤ i → i < n → inn i = false → p i = ow n D i
 fix : ∀ i : Int, 0 ≤ i → i < n → inn i = true → p i = min (ow n D i) (cash i + rcv n D p i)
 top : ∀ q : Int → Int, (∀ i : Int, 0 ≤ i → i < n → 0 ≤ q i ∧ q i ≤ ow n D i) → (∀ i : Int, 0 ≤ i → i < n → inn i = true → q i ≤ min (ow n D i) (cash i + rcv n D q i)) → ∀ i : Int, 0 ≤ i → i < n → q i ≤ p i
theorem rcv_mono {n : Nat} {D : Int → Int → Int} (hv : Valid n D) (p q : Int → Int) (h : ∀ i : Int, 0 ≤ i → i < n → p i ≤ q i) (j : Int) : rcv n D p j ≤ rcv n D q j :=
 sm_le fun i i0 i1 => by
  have h1 : p i * D i j ≤ q i * D i j := Int.mul_le_mul_of_nonneg_right (h i i0 i1) (hv.lo i j)
  have h2 := (ow_rng hv i).1
  by_cases hz : ow n D i = 0
  ·rw [hz, Int.ediv_zero, Int.ediv_zero]; exact Int.le_refl _
  ·exact Int.ediv_le_ediv (by omega) h1
structure Fall (n : Nat) (D : Int → Int → Int) (cash : Int → Int) (inn : Int → Bool) (x : Int → Int) : Prop where
 rng : ∀ i : Int, 0 ≤ i → i < n → 0 ≤ x i ∧ x i ≤ ow n D i
 out : ∀ i : Int, n ≤ i → i < 32 → x i = 0
 off : ∀ i : Int, 0 ≤ i → i < n → inn i = false → x i = ow n D i
 down : ∀ i : Int, 0 ≤ i → i < n → amF n D cash inn x i ≤ x i
 top : ∀ q : Int → Int, (∀ i : Int, 0 ≤ i → i < n → 0 ≤ q i ∧ q i ≤ ow n D i) → (∀ i : Int, 0 ≤ i → i < n → inn i = true → q i ≤ min (ow n D i) (cash i + rcv n D q i)) → ∀ i : Int, 0 ≤ i → i < n → q i ≤ x i
section
variable {n : Nat} {D : Int → Int → Int} {cash : Int → Int} {inn : Int → Bool}
theorem amF_in {x : Int → Int} {i : Int} (h0 : 0 ≤ i) (h1 : i < n) (h : inn i = true) : amF n D cash inn x i = min (ow n D i) (cash i + rcv n D x i) := if_pos ⟨h0, h1, h⟩
theorem amF_off {x : Int → Int} {i : Int} (h : inn i = false) : amF n D cash inn x i = x i := if_neg (by simp [h])
theorem amF_out {x : Int → Int} {i : Int} (h : (n : Int) ≤ i) : amF n D cash inn x i = x i := if_neg (by omega)
theorem Fall.start (hv : Valid n D) : Fall n D cash inn (upto n (ow n D)) := by
 refine ⟨fun i i0 i1 => by rw [upto_in i0 i1]; exact ⟨(ow_rng hv i).1, Int.le_refl _⟩, fun i i0 _ => upto_out i0, fun i i0 i1 _ => upto_in i0 i1, fun i i0 i1 => ?_, fun q hq _ i i0 i1 => by rw [upto_in i0 i1]; exact (hq i i0 i1).2⟩
 cases h : inn i with
 | true => rw [amF_in i0 i1 h, upto_in i0 i1]; omega
 | false => rw [amF_off h]; exact Int.le_refl _
theorem Fall.step (hv : Valid n D) (hc : ∀ i : Int, 0 ≤ i → i < n → 0 ≤ cash i) {x : Int → Int} (H : Fall n D cash inn x) : Fall n D cash inn (amF n D cash inn x) := by
 have hmono := rcv_mono hv (amF n D cash inn x) x H.down
 refine ⟨fun i i0 i1 => ?_, fun i i0 i1 => by rw [amF_out i0]; exact H.out i i0 i1, fun i i0 i1 h => by rw [amF_off h]; exact H.off i i0 i1 h, fun i i0 i1 => ?_, fun q hq hq2 i i0 i1 => ?_⟩
 ·cases h : inn i with
  | true =>
   rw [amF_in i0 i1 h]
   have := hc i i0 i1
   have := (rcv_rng hv x H.rng i).1
   have := (ow_rng hv i).1
   omega
  | false => rw [amF_off h]; exact H.rng i i0 i1
 ·cases h : inn i with
  | true => rw [amF_in i0 i1 h, amF_in i0 i1 h]; have := hmono i; omega
  | false => rw [amF_off h]; exact Int.le_refl _
 ·cases h : inn i with
  | true =>
   rw [amF_in i0 i1 h]
   have h1 := hq2 i i0 i1 h
   have h2 := rcv_mono hv q x (fun k k0 k1 => H.top q hq hq2 k k0 k1) i
   omega
  | false => rw [amF_off h]; exact H.top q hq hq2 i i0 i1
theorem Fall.less (hv : Valid n D) (hc : ∀ i : Int, 0 ≤ i → i < n → 0 ≤ cash i) {x : Int → Int} (H : Fall n D cash inn x) : (∀ j, j < 32 → x ((j : Nat) : Int) = amF n D cash inn x j) ∨ (sm (amF n D cash inn x) n).toNat < (sm x n).toNat := by
 by_cases h : ∀ j, j < 32 → x ((j : Nat) : Int) = amF n D cash inn x j
 ·exact .inl h
 ·refine .inr ?_
  obtain ⟨j, hj⟩ := Classical.not_forall.1 h
  obtain ⟨hj32, hne⟩ := Classical.not_imp.1 hj
  have hjn : (j : Int) < n := by
   by_cases hx : (j : Int) < n
   ·exact hx
   ·exact absurd (amF_out (D := D) (cash := cash) (inn := inn) (x := x) (by omega)).symm hne
  have h1 : sm (amF n D cash inn x) n ≤ sm (upd x j (amF n D cash inn x j)) n := sm_le fun i i0 i1 => by
   unfold upd; split
   ·rename_i e; rw [e]; exact Int.le_refl _
   ·exact H.down i i0 i1
  rw [sm_upd x j _ (by omega) hjn] at h1
  have h2 := H.down j (by omega) hjn
  have h3 := sm_pos (f := x) (k := n) (fun i i0 i1 => (H.rng i i0 i1).1) j (by omega) hjn
  have h4 := ((H.step hv hc).rng j (by omega) hjn).1
  have h5 : 0 ≤ sm x n := sm_nonneg fun i i0 i1 => (H.rng i i0 i1).1
  omega
theorem Fall.done {x : Int → Int} (H : Fall n D cash inn x) (hx : ∀ j, j < 32 → x ((j : Nat) : Int) = amF n D cash inn x j) (hn : n ≤ 32) : Clr n D cash inn x :=
 ⟨H.rng, H.out, H.off, fun i i0 i1 h => by
  have := hx i.toNat (by omega)
  rw [Int.toNat_of_nonneg i0] at this
  rw [amF_in i0 i1 h] at this
  exact this, H.top⟩
end
theorem among_any (ao ac ai : Option Addr) (n c cc ci : Nat) (D : Int → Int → Int) (cash : Int → Int) (inn : Int → Bool) (w : World) (hv : Valid n D) (hc : ∀ i : Int, 0 ≤ i → i < n → 0 ≤ cash i ∧ cash i ≤ 1000000000)
  (h : ITab w.heap.size w ao n (fun _ => n) (fun r c => .int .i64 (D r c))) (hC : IAt w.heap.size w ac n (fun i => .int .i64 (cash i))) (hN : IAt w.heap.size w ai n (fun i => .bool (inn i))) :
  Calls Tryz.prog 110 #[.agg [.slice ao n c, .slice ac n cc].toArray, .slice ai n ci] w fun e w' => ∃ p, e = .returned (arrv 32 (fun i => .int .i64 (p i))) ∧ Clr n D cash inn p ∧ Below w.heap.size w w' := by
 have hle := hv.le
 refine calls_of_run (F := [(0, _), (1, _)]) Tryz.func110 rfl Tryz.ntmps110 rfl rfl ?_
 have hO0 := Own.init w
 refine run_seq <| run_region <| rl_ow rfl (ow_box _ rfl rfl rfl rfl rfl hO0) ?_
 rintro _ w1 ⟨b1, rfl, hO2, hs3⟩
 refine rl_ow rfl (ow_box _ rfl rfl rfl rfl rfl hO2) ?_
 rintro _ w4 ⟨b3, rfl, hO5, hs6⟩
 refine rl_ow rfl (ow_allocA 32 rfl rfl rfl zero_132 rfl hO5) ?_
 rintro _ w7 ⟨b4, rfl, hO8, hs9⟩
 refine rl_nil <| run_seq <| run_region <| rl_v rfl rfl rfl (ov_loadW rfl Tryz.underlying73 rfl (by kernel_rfl) rfl hO8 2 rfl) ?_
 refine rl_call callable_109 rfl rfl rfl rfl rfl rfl (owed_any ao n c D (.slice ac n cc) _ hv (h.later hO8.below)) (fun e10 w11 hp12 => ?_)
 obtain ⟨rfl, hb⟩ := hp12
 refine ⟨_, rfl, ?_⟩
 have hO13 := hO8.past hb
 refine rl_ow rfl (ow_allocA 32 rfl rfl rfl zero_132 rfl hO13) ?_
 rintro _ w14 ⟨b2, rfl, hO15, hs16⟩
 refine rl_ow rfl (ow_storeA rfl rfl (by kernel_rfl) hO15 0 rfl rfl rfl (fun _ => rfl)) ?_
 rintro _ w17 ⟨rfl, hO18, hs19⟩
 have hc0 : ∀ i : Int, 0 ≤ i → i < n → 0 ≤ cash i := fun i i0 i1 => (hc i i0 i1).1
 have hOA := hO18
 refine rl_nil <| run_seq <| run_region <| rl_v rfl rfl rfl (ov_loadA rfl Tryz.underlying132 rfl (by kernel_rfl) rfl hO18 0 rfl) ?_
 refine rl_v rfl rfl rfl (ov_func rfl rfl rfl) ?_
 refine rl_call callable_127 rfl rfl rfl rfl rfl rfl (settled_any _ _ (amF n D cash inn) (Fall n D cash inn) (fun x => (sm x n).toNat) _ (upto n (ow n D)) callable_128 (fun x w' hb hx => step1_any b1 b2 b3 ao ac ai n c cc ci D cash inn x w' hv hc ((hOA.readsL 3 rfl).later hb) ((hOA.readsI 0 rfl).later hb) ((hOA.readsL 2 rfl).later hb) (h.later (hOA.below.trans (hb.mono hOA.size))) (hC.later (hOA.below.trans (hb.mono hOA.size))) (hN.later (hOA.below.trans (hb.mono hOA.size))) hx.rng) (fun x hx => hx.step hv hc0) (fun x hx => hx.less hv hc0) (Fall.start hv)) (fun e20 w21 hp22 => ?_)
 obtain ⟨x, rfl, hx, hfx, hb2⟩ := hp22
 refine ⟨_, rfl, ?_⟩
 have hO23 := hO18.past hb2
 refine rl_ow rfl (ow_storeA rfl rfl (by kernel_rfl) hO23 1 rfl rfl rfl (fun _ => rfl)) ?_
 rintro _ w24 ⟨rfl, hO25, hs26⟩
 refine rl_nil <| run_ret Tryz.func110 (resA Tryz.results110 rfl Tryz.underlying132 rfl (by kernel_rfl) hO25 1 rfl) ?_
 exact ⟨x, rfl, hx.done hfx hle, hO25.below⟩
theorem clear_any (ao ac : Option Addr) (n c cc : Nat) (D : Int → Int → Int) (cash : Int → Int) (w : World) (hv : Valid n D) (hc : ∀ i : Int, 0 ≤ i → i < n → 0 ≤ cash i ∧ cash i ≤ 1000000000)
  (h : ITab w.heap.size w ao n (fun _ => n) (fun r c => .int .i64 (D r c))) (hC : IAt w.heap.size w ac n (fun i => .int .i64 (cash i))) :
  Calls Tryz.prog 71 #[.agg [.slice ao n c, .slice ac n cc].toArray] w fun e w' => ∃ p, e = .returned (arrv 32 (fun i => .int .i64 (p i))) ∧ Clr n D cash (fun _ => true) p ∧ Below w.heap.size w w' := by
 have hpos := hv.pos
 have hle := hv.le
 refine calls_of_run (F := [(0, _)]) Tryz.func71 rfl Tryz.ntmps71 rfl rfl ?_
 have hO0 := Own.init w
 refine run_seq <| run_region <| rl_ow rfl (ow_box _ rfl rfl rfl rfl rfl hO0) ?_
 rintro _ w1 ⟨b1, rfl, hO2, hs3⟩
 refine rl_ow rfl (ow_allocA 32 rfl rfl rfl zero_132 rfl hO2) ?_
 rintro _ w4 ⟨b2, rfl, hO5, hs6⟩
 refine rl_nil <| run_seq <| run_held (fun w' => Own w.heap.size w w' ([some (lch b1 73 [.slice ao n c, .slice ac n cc])])) mixed ?_
 have hO8 := hO5.drew
 generalize World.drew w4 = w7 at hO8 ⊢
 have hS9 : Own w.heap.size w w7 ([some (lch b1 73 [.slice ao n c, .slice ac n cc])]) := by first | exact hO8.sub (.cons _ (.refl _)) | exact hO8.sub (.cons _ (.cons _ (.refl _))) | exact hO8.sub (.cons _ (.cons _ (.cons _ (.refl _))))
 refine rh_v 0 rfl (by kernel_rfl) rfl rfl rfl hS9 (fun _ hS => ov_loadW rfl Tryz.underlying73 rfl (by kernel_rfl) rfl hS 0 rfl) ?_
 refine rh_v 2 rfl (by kernel_rfl) rfl rfl rfl hS9 (fun _ hS => ov_fieldS rfl Tryz.underlying73 rfl (fo := 0) rfl (by kernel_rfl) rfl) ?_
 refine rh_v 3 rfl (by kernel_rfl) rfl rfl rfl hS9 (fun _ hS => ov_load rfl Tryz.underlying64 rfl rfl (by exact hS.cellL 0 rfl rfl)) ?_
 refine rh_v 4 rfl (by kernel_rfl) rfl rfl rfl hS9 (fun _ hS => ov_len rfl Tryz.underlying64 rfl) ?_
 refine rh_any1 1 (by kernel_rfl) ?_
 refine rc_op rfl rfl (ow_one rfl rfl rfl Tryz.underlying75 info_4 rfl hO8 rfl rfl) ?_
 rintro _ w10 ⟨b3, rfl, hO11, hs12⟩
 have hS13 : Own w.heap.size w w10 ([some (lch b1 73 [.slice ao n c, .slice ac n cc])]) := by first | exact hO11.sub (.cons _ (.refl _)) | exact hO11.sub (.cons _ (.cons _ (.refl _))) | exact hO11.sub (.cons _ (.cons _ (.cons _ (.refl _))))
 refine ⟨hS13, ?_⟩
 refine rh_any1 5 (by kernel_rfl) ?_
 refine rc_op rfl rfl (ow_call2 callable_111 rfl rfl rfl rfl rfl (repeatBool_any _ _ n true _ hpos (by omega) (hO11.readsI 0 rfl)) (by intro e w' hp; obtain ⟨bl, rfl, hOc⟩ := hp; exact ⟨_, rfl⟩)) ?_
 rintro _ w16 ⟨_, v14, he17, rfl, hp15⟩
 obtain ⟨bl, rfl, hOc⟩ := hp15
 injection he17 with he17; subst he17
 have hO18 := hO11.join hOc
 have hS19 : Own w.heap.size w w16 ([some (lch b1 73 [.slice ao n c, .slice ac n cc])]) := by first | exact hO18.sub (.cons _ (.refl _)) | exact hO18.sub (.cons _ (.cons _ (.refl _))) | exact hO18.sub (.cons _ (.cons _ (.cons _ (.refl _))))
 refine ⟨hS19, ?_⟩
 refine rh_any1 6 (by kernel_rfl) ?_
 refine rc_op rfl rfl (ow_call2 callable_110 rfl rfl rfl rfl rfl (among_any ao ac (some ⟨bl, 0, none⟩) n c cc n D cash (fun _ => true) _ hv hc (h.later hO18.below) (hC.later hO18.below) (hO18.readsI 0 rfl)) (by intro e w' hp; obtain ⟨p, rfl, hp, hb⟩ := hp; exact ⟨_, rfl⟩)) ?_
 rintro _ w22 ⟨_, v20, he23, rfl, hp21⟩
 obtain ⟨p, rfl, hp, hb⟩ := hp21
 injection he23 with he23; subst he23
 have hO24 := hO18.past hb
 have hS25 : Own w.heap.size w w22 ([some (lch b1 73 [.slice ao n c, .slice ac n cc])]) := by first | exact hO24.sub (.cons _ (.refl _)) | exact hO24.sub (.cons _ (.cons _ (.refl _))) | exact hO24.sub (.cons _ (.cons _ (.cons _ (.refl _))))
 refine ⟨hS25, ?_⟩
 refine rh_any1 7 (by kernel_rfl) ?_
 refine rc_op rfl rfl (ow_storeA rfl rfl (by kernel_rfl) hO24 2 rfl rfl rfl (fun _ => rfl)) ?_
 rintro _ w26 ⟨rfl, hO27, hs28⟩
 have hS29 : Own w.heap.size w w26 ([some (lch b1 73 [.slice ao n c, .slice ac n cc])]) := by first | exact hO27.sub (.cons _ (.refl _)) | exact hO27.sub (.cons _ (.cons _ (.refl _))) | exact hO27.sub (.cons _ (.cons _ (.cons _ (.refl _))))
 refine ⟨hS29, ?_⟩
 refine rh_done (by kernel_rfl) ?_
 refine run_ret Tryz.func71 (resA Tryz.results71 rfl Tryz.underlying132 rfl (by kernel_rfl) hO27 2 rfl) ?_
 exact ⟨p, rfl, hp, hO27.below⟩
end Go.Proofs.YtlldeifbfpmbaaaGreat
set_option maxRecDepth 100000
namespace Go.Proofs.YtlldeifbfpmbaaaGreat
open Go.RowKit Go.Proofs
def pk (P : Int → Bool) : Nat → List Int
 | 0 => []
 | k + 1 => if P k then pk P k ++ [(k : Int)] else pk P k
def lF (l : List Int) (j : Int) : Int := l.getD j.toNat 0
theorem pk_mem {P : Int → Bool} {k : Nat} {x : Int} : x ∈ pk P k ↔ 0 ≤ x ∧ x < k ∧ P x = true := by
 induction k with
 | zero => simp [pk]; omega
 | succ k ih =>
  unfold pk
  split
  ·rename_i h
   rw [List.mem_append, ih, List.mem_singleton]
   constructor
   ·rintro (⟨a, b, c⟩ | rfl)
    ·exact ⟨a, by omega, c⟩
    ·exact ⟨by omega, by omega, h⟩
   ·rintro ⟨a, b, c⟩
    by_cases e : x = (k : Int)
    ·exact .inr e
    ·exact .inl ⟨a, by omega, c⟩
  ·rename_i h
   rw [ih]
   constructor
   ·rintro ⟨a, b, c⟩; exact ⟨a, by omega, c⟩
   ·rintro ⟨a, b, c⟩
    by_cases e : x = (k : Int)
    ·subst e; exact absurd c h
    ·exact ⟨a, by omega, c⟩
theorem pk_len (P : Int → Bool) (k : Nat) : (pk P k).length ≤ k := by
 induction k with
 | zero => simp [pk]
 | succ k ih =>
  unfold pk
  split
  ·rw [List.length_append, List.length_singleton]; omega
  ·omega
theorem pk_yes {P : Int → Bool} {k : Int} (h0 : 0 ≤ k) (h : P k = true) : pk P (k + 1).toNat = pk P k.toNat ++ [k] := by
 rw [show (k + 1).toNat = k.toNat + 1 by omega]
 show (if P (k.toNat : Int) then _ else _) = _
 rw [Int.toNat_of_nonneg h0, if_pos h]
theorem pk_no {P : Int → Bool} {k : Int} (h0 : 0 ≤ k) (h : P k = false) : pk P (k + 1).toNat = pk P k.toNat := by
 rw [show (k + 1).toNat = k.toNat + 1 by omega]
 show (if P (k.toNat : Int) then _ else _) = _
 rw [Int.toNat_of_nonneg h0, if_neg (by simp [h])]
theorem lF_snoc (l : List Int) (x : Int) (j : Int) (h0 : 0 ≤ j) (h1 : j < (l.length + 1 : Nat)) : upd (lF l) l.length x j = lF (l ++ [x]) j := by
 unfold upd lF
 by_cases e : j = (l.length : Int)
 ·rw [if_pos e]
  subst e
  simp [List.getD_eq_getElem?_getD]
 ·rw [if_neg e, List.getD_eq_getElem?_getD, List.getD_eq_getElem?_getD, List.getElem?_append_left (by omega)]
def flg (n : Nat) (D : Int → Int → Int) (p : Int → Int) : List Int := pk (fun i => decide (p i < ow n D i)) n
end Go.Proofs.YtlldeifbfpmbaaaGreat
