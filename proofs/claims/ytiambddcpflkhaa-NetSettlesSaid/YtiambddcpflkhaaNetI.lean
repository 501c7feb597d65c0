/- Crises: the greatest clearing payments; Clear; awake. -/
import Derived.Test.YtiambddcpflkhaaNetH
set_option maxRecDepth 100000
namespace Go.Proofs.Ytiambddcpflkhaa
open Go.RowKit Go.Proofs

theorem settled_any (g : FuncId) (cap : Array Value) (Fx : (Int → Int) → Int → Int) (Pr : (Int → Int) → Prop) (μ : (Int → Int) → Nat) (w : World) (x0 : Int → Int) (hcl : Callable Try.prog g)
    (hf : ∀ x w', Below w.heap.size w w' → Pr x → Calls Try.prog g (#[arrv 32 (fun i => .int .i64 (x i))] ++ cap) w' fun e w'' => e = .returned (arrv 32 (fun i => .int .i64 (Fx x i))) ∧ Below w'.heap.size w' w'')
    (hP : ∀ x, Pr x → Pr (Fx x)) (hμ : ∀ x, Pr x → (∀ j, j < 32 → x ((j : Nat) : Int) = Fx x j) ∨ μ (Fx x) < μ x) (h0 : Pr x0) :
    Calls Try.prog 91 #[arrv 32 (fun i => .int .i64 (x0 i)), .func (.func g) #[] cap] w fun e w' => ∃ x, e = .returned (arrv 32 (fun i => .int .i64 (x i))) ∧ Pr x ∧ (∀ j, j < 32 → x ((j : Nat) : Int) = Fx x j) ∧ Below w.heap.size w w' := by
  refine calls_of_run (F := [(0, _), (1, _)]) Try.func91 rfl Try.ntmps91 rfl rfl ?_
  have hO0 := Own.init w
  refine run_seq ?_
  refine run_region ?_
  refine rl_ow rfl (ow_boxA rfl rfl rfl rfl hO0) ?_
  rintro _ w1 ⟨b2, rfl, hO2, hs3⟩
  refine rl_ow rfl (ow_allocA 32 rfl rfl rfl zero_101 rfl hO2) ?_
  rintro _ w4 ⟨b4, rfl, hO5, hs6⟩
  refine rl_nil ?_
  refine run_block ?_
  refine Run.keep [1, 2, 4] (F' := [(1, _), (2, _), (4, _)]) rfl ?_
  refine run_loop2 (fun (x : Int → Int) (z : Int) => []) [1, 2, 4] (fun (x : Int → Int) (z : Int) (w7 : World) => Pr x ∧ Own w.heap.size w w7 [some (vch b4 101 32 (fun _ => .int .i64 0)), some (vch b2 101 32 (fun i => .int .i64 (x i)))]) (fun (x : Int → Int) (z : Int) => μ x) (x0) (0) ?_ (And.intro rfl (And.intro rfl (And.intro rfl trivial))) ?_
  · exact ⟨h0, hO5⟩
  intro x z w7 hIw7 ih8
  obtain ⟨hx, hO⟩ := hIw7
  show Run _ _ _ _ [(1, _), (2, _), (4, _)] _ _
  refine run_block ?_
  refine run_seq ?_
  refine run_region ?_
  refine rl_v rfl rfl rfl (ov_move rfl rfl) ?_
  refine rl_v rfl rfl rfl (ov_loadA rfl Try.underlying101 rfl (by kernel_rfl) rfl hO 1 rfl) ?_
  refine rl_call hcl rfl rfl rfl rfl rfl rfl (hf x _ hO.below hx) (fun e9 w10 hp11 => ?_)
  obtain ⟨rfl, hb⟩ := hp11
  refine ⟨_, rfl, ?_⟩
  have hO12 := hO.past hb
  refine rl_ow rfl (ow_allocA 32 rfl rfl rfl zero_101 rfl hO12) ?_
  rintro _ w13 ⟨b5, rfl, hO14, hs15⟩
  refine rl_ow rfl (ow_storeA rfl rfl (by kernel_rfl) hO14 0 rfl rfl rfl (fun _ => rfl)) ?_
  rintro _ w16 ⟨rfl, hO17, hs18⟩
  refine rl_nil ?_
  refine run_seq ?_
  refine run_seq ?_
  refine run_region ?_
  refine rl_v rfl rfl rfl (ov_loadA rfl Try.underlying101 rfl (by kernel_rfl) rfl hO17 2 rfl) ?_
  refine rl_v rfl rfl rfl (ov_loadA rfl Try.underlying101 rfl (by kernel_rfl) rfl hO17 0 rfl) ?_
  refine rl_v rfl rfl rfl (ov_eqlA rfl Try.underlying101 Try.underlying2 (by kernel_rfl) (by kernel_rfl) (by kernel_rfl) rfl rfl) ?_
  refine rl_nil ?_
  first | refine run_cond_dec rfl (fun h1 => ?_) (fun h1 => ?_) | refine run_cond rfl (fun h1 => ?_) (fun h1 => ?_)
  · refine run_seq ?_
    refine run_region ?_
    refine rl_v rfl rfl rfl (ov_loadA rfl Try.underlying101 rfl (by kernel_rfl) rfl hO17 2 rfl) ?_
    refine rl_ow rfl (ow_storeA rfl rfl (by kernel_rfl) hO17 1 rfl rfl rfl (fun _ => rfl)) ?_
    rintro _ w19 ⟨rfl, hO20, hs21⟩
    refine rl_nil ?_
    refine run_ret Try.func91 (resA Try.results91 rfl Try.underlying101 rfl (by kernel_rfl) hO20 1 rfl) ?_
    exact ⟨x, rfl, hx, h1, hO20.below⟩
  · have hdec := (hμ x hx).resolve_left h1
    refine run_skip ?_
    refine run_region ?_
    refine rl_v rfl rfl rfl (ov_loadA rfl Try.underlying101 rfl (by kernel_rfl) rfl hO17 0 rfl) ?_
    refine rl_ow rfl (ow_storeA rfl rfl (by kernel_rfl) hO17 2 rfl rfl rfl (fun _ => rfl)) ?_
    rintro _ w22 ⟨rfl, hO23, hs24⟩
    refine rl_nil ?_
    refine run_inBlock ?_
    refine Run.use (ih8 (Fx x) (0) _ ?_ ?_) (And.intro rfl (And.intro rfl (And.intro rfl trivial)))
    · first | omega | (dsimp only; omega)
    · exact ⟨hP x hx, hO23.tail⟩

/-- The greatest payments that are clearing among some parties, while the others pay all. -/
structure Clr (n : Nat) (D : Int → Int → Int) (cash : Int → Int) (inn : Int → Bool) (p : Int → Int) : Prop where
  rng : ∀ i : Int, 0 ≤ i → i < n → 0 ≤ p i ∧ p i ≤ ow n D i
  out : ∀ i : Int, n ≤ i → i < 32 → p i = 0
  off : ∀ i : Int, 0 ≤ i → i < n → inn i = false → p i = ow n D i
  fix : ∀ i : Int, 0 ≤ i → i < n → inn i = true → p i = min (ow n D i) (cash i + rcv n D p i)
  top : ∀ q : Int → Int, (∀ i : Int, 0 ≤ i → i < n → 0 ≤ q i ∧ q i ≤ ow n D i) → (∀ i : Int, 0 ≤ i → i < n → inn i = true → q i ≤ min (ow n D i) (cash i + rcv n D q i)) → ∀ i : Int, 0 ≤ i → i < n → q i ≤ p i

theorem rcv_mono {n : Nat} {D : Int → Int → Int} (hv : Valid n D) (p q : Int → Int) (h : ∀ i : Int, 0 ≤ i → i < n → p i ≤ q i) (j : Int) : rcv n D p j ≤ rcv n D q j :=
  sm_le fun i i0 i1 => by
    have h1 : p i * D i j ≤ q i * D i j := Int.mul_le_mul_of_nonneg_right (h i i0 i1) (hv.lo i j)
    have h2 := (ow_rng hv i).1
    by_cases hz : ow n D i = 0
    · rw [hz, Int.ediv_zero, Int.ediv_zero]; exact Int.le_refl _
    · exact Int.ediv_le_ediv (by omega) h1

/-- What is kept while payments settle from above. -/
structure Fall (n : Nat) (D : Int → Int → Int) (cash : Int → Int) (inn : Int → Bool) (x : Int → Int) : Prop where
  rng : ∀ i : Int, 0 ≤ i → i < n → 0 ≤ x i ∧ x i ≤ ow n D i
  out : ∀ i : Int, n ≤ i → i < 32 → x i = 0
  off : ∀ i : Int, 0 ≤ i → i < n → inn i = false → x i = ow n D i
  down : ∀ i : Int, 0 ≤ i → i < n → amF n D cash inn x i ≤ x i
  top : ∀ q : Int → Int, (∀ i : Int, 0 ≤ i → i < n → 0 ≤ q i ∧ q i ≤ ow n D i) → (∀ i : Int, 0 ≤ i → i < n → inn i = true → q i ≤ min (ow n D i) (cash i + rcv n D q i)) → ∀ i : Int, 0 ≤ i → i < n → q i ≤ x i

section
variable {n : Nat} {D : Int → Int → Int} {cash : Int → Int} {inn : Int → Bool}
theorem amF_in {x : Int → Int} {i : Int} (h0 : 0 ≤ i) (h1 : i < n) (h : inn i = true) : amF n D cash inn x i = min (ow n D i) (cash i + rcv n D x i) := if_pos ⟨h0, h1, h⟩
theorem amF_off {x : Int → Int} {i : Int} (h : inn i = false) : amF n D cash inn x i = x i := if_neg (by simp [h])
theorem amF_out {x : Int → Int} {i : Int} (h : (n : Int) ≤ i) : amF n D cash inn x i = x i := if_neg (by omega)

theorem Fall.start (hv : Valid n D) : Fall n D cash inn (upto n (ow n D)) := by
  refine ⟨fun i i0 i1 => by rw [upto_in i0 i1]; exact ⟨(ow_rng hv i).1, Int.le_refl _⟩, fun i i0 _ => upto_out i0, fun i i0 i1 _ => upto_in i0 i1, fun i i0 i1 => ?_, fun q hq _ i i0 i1 => by rw [upto_in i0 i1]; exact (hq i i0 i1).2⟩
  cases h : inn i with
  | true => rw [amF_in i0 i1 h, upto_in i0 i1]; omega
  | false => rw [amF_off h]; exact Int.le_refl _
theorem Fall.step (hv : Valid n D) (hc : ∀ i : Int, 0 ≤ i → i < n → 0 ≤ cash i) {x : Int → Int} (H : Fall n D cash inn x) : Fall n D cash inn (amF n D cash inn x) := by
  have hmono := rcv_mono hv (amF n D cash inn x) x H.down
  refine ⟨fun i i0 i1 => ?_, fun i i0 i1 => by rw [amF_out i0]; exact H.out i i0 i1, fun i i0 i1 h => by rw [amF_off h]; exact H.off i i0 i1 h, fun i i0 i1 => ?_, fun q hq hq2 i i0 i1 => ?_⟩
  · cases h : inn i with
    | true =>
      rw [amF_in i0 i1 h]
      have := hc i i0 i1
      have := (rcv_rng hv x H.rng i).1
      have := (ow_rng hv i).1
      omega
    | false => rw [amF_off h]; exact H.rng i i0 i1
  · cases h : inn i with
    | true => rw [amF_in i0 i1 h, amF_in i0 i1 h]; have := hmono i; omega
    | false => rw [amF_off h]; exact Int.le_refl _
  · cases h : inn i with
    | true =>
      rw [amF_in i0 i1 h]
      have h1 := hq2 i i0 i1 h
      have h2 := rcv_mono hv q x (fun k k0 k1 => H.top q hq hq2 k k0 k1) i
      omega
    | false => rw [amF_off h]; exact H.top q hq hq2 i i0 i1
theorem Fall.less (hv : Valid n D) (hc : ∀ i : Int, 0 ≤ i → i < n → 0 ≤ cash i) {x : Int → Int} (H : Fall n D cash inn x) : (∀ j, j < 32 → x ((j : Nat) : Int) = amF n D cash inn x j) ∨ (sm (amF n D cash inn x) n).toNat < (sm x n).toNat := by
  by_cases h : ∀ j, j < 32 → x ((j : Nat) : Int) = amF n D cash inn x j
  · exact .inl h
  · refine .inr ?_
    obtain ⟨j, hj⟩ := Classical.not_forall.1 h
    obtain ⟨hj32, hne⟩ := Classical.not_imp.1 hj
    have hjn : (j : Int) < n := by
      by_cases hx : (j : Int) < n
      · exact hx
      · exact absurd (amF_out (D := D) (cash := cash) (inn := inn) (x := x) (by omega)).symm hne
    have h1 : sm (amF n D cash inn x) n ≤ sm (upd x j (amF n D cash inn x j)) n := sm_le fun i i0 i1 => by
      unfold upd; split
      · rename_i e; rw [e]; exact Int.le_refl _
      · exact H.down i i0 i1
    rw [sm_upd x j _ (by omega) hjn] at h1
    have h2 := H.down j (by omega) hjn
    have h3 := sm_pos (f := x) (k := n) (fun i i0 i1 => (H.rng i i0 i1).1) j (by omega) hjn
    have h4 := ((H.step hv hc).rng j (by omega) hjn).1
    have h5 : 0 ≤ sm x n := sm_nonneg fun i i0 i1 => (H.rng i i0 i1).1
    omega
theorem Fall.done {x : Int → Int} (H : Fall n D cash inn x) (hx : ∀ j, j < 32 → x ((j : Nat) : Int) = amF n D cash inn x j) (hn : n ≤ 32) : Clr n D cash inn x :=
  ⟨H.rng, H.out, H.off, fun i i0 i1 h => by
    have := hx i.toNat (by omega)
    rw [Int.toNat_of_nonneg i0] at this
    rw [amF_in i0 i1 h] at this
    exact this, H.top⟩
theorem Clr.congr {inn' : Int → Bool} {p : Int → Int} (H : Clr n D cash inn p) (e : ∀ i : Int, 0 ≤ i → i < n → inn i = inn' i) : Clr n D cash inn' p :=
  ⟨H.rng, H.out, fun i i0 i1 h => H.off i i0 i1 (by rw [e i i0 i1]; exact h), fun i i0 i1 h => H.fix i i0 i1 (by rw [e i i0 i1]; exact h), fun q h1 h2 => H.top q h1 (fun i i0 i1 h => h2 i i0 i1 (by rw [← e i i0 i1]; exact h))⟩
end

theorem among_any (ao ac ai : Option Addr) (n c cc ci : Nat) (D : Int → Int → Int) (cash : Int → Int) (inn : Int → Bool) (w : World) (hv : Valid n D) (hc : ∀ i : Int, 0 ≤ i → i < n → 0 ≤ cash i ∧ cash i ≤ 1000000000)
    (h : ITab w.heap.size w ao n (fun _ => n) (fun r c => .int .i64 (D r c))) (hC : IAt w.heap.size w ac n (fun i => .int .i64 (cash i))) (hN : IAt w.heap.size w ai n (fun i => .bool (inn i))) :
    Calls Try.prog 74 #[.agg [.slice ao n c, .slice ac n cc].toArray, .slice ai n ci] w fun e w' => ∃ p, e = .returned (arrv 32 (fun i => .int .i64 (p i))) ∧ Clr n D cash inn p ∧ Below w.heap.size w w' := by
  have hle := hv.le
  refine calls_of_run (F := [(0, _), (1, _)]) Try.func74 rfl Try.ntmps74 rfl rfl ?_
  have hO0 := Own.init w
  refine run_seq ?_
  refine run_region ?_
  refine rl_ow rfl (ow_box _ rfl rfl rfl rfl rfl hO0) ?_
  rintro _ w1 ⟨b1, rfl, hO2, hs3⟩
  refine rl_ow rfl (ow_box _ rfl rfl rfl rfl rfl hO2) ?_
  rintro _ w4 ⟨b3, rfl, hO5, hs6⟩
  refine rl_ow rfl (ow_allocA 32 rfl rfl rfl zero_101 rfl hO5) ?_
  rintro _ w7 ⟨b4, rfl, hO8, hs9⟩
  refine rl_nil ?_
  refine run_seq ?_
  refine run_region ?_
  refine rl_v rfl rfl rfl (ov_loadW rfl Try.underlying37 rfl (by kernel_rfl) rfl hO8 2 rfl) ?_
  refine rl_call callable_68 rfl rfl rfl rfl rfl rfl (owed_any ao n c D (.slice ac n cc) _ hv (h.later hO8.below)) (fun e10 w11 hp12 => ?_)
  obtain ⟨rfl, hb⟩ := hp12
  refine ⟨_, rfl, ?_⟩
  have hO13 := hO8.past hb
  refine rl_ow rfl (ow_allocA 32 rfl rfl rfl zero_101 rfl hO13) ?_
  rintro _ w14 ⟨b2, rfl, hO15, hs16⟩
  refine rl_ow rfl (ow_storeA rfl rfl (by kernel_rfl) hO15 0 rfl rfl rfl (fun _ => rfl)) ?_
  rintro _ w17 ⟨rfl, hO18, hs19⟩
  have hc0 : ∀ i : Int, 0 ≤ i → i < n → 0 ≤ cash i := fun i i0 i1 => (hc i i0 i1).1
  have hOA := hO18
  refine rl_nil ?_
  refine run_seq ?_
  refine run_region ?_
  refine rl_v rfl rfl rfl (ov_loadA rfl Try.underlying101 rfl (by kernel_rfl) rfl hO18 0 rfl) ?_
  refine rl_v rfl rfl rfl (ov_func rfl rfl rfl) ?_
  refine rl_call callable_91 rfl rfl rfl rfl rfl rfl (settled_any _ _ (amF n D cash inn) (Fall n D cash inn) (fun x => (sm x n).toNat) _ (upto n (ow n D)) callable_92 (fun x w' hb hx => step1_any b1 b2 b3 ao ac ai n c cc ci D cash inn x w' hv hc ((hOA.readsL 3 rfl).later hb) ((hOA.readsI 0 rfl).later hb) ((hOA.readsL 2 rfl).later hb) (h.later (hOA.below.trans (hb.mono hOA.size))) (hC.later (hOA.below.trans (hb.mono hOA.size))) (hN.later (hOA.below.trans (hb.mono hOA.size))) hx.rng) (fun x hx => hx.step hv hc0) (fun x hx => hx.less hv hc0) (Fall.start hv)) (fun e20 w21 hp22 => ?_)
  obtain ⟨x, rfl, hx, hfx, hb2⟩ := hp22
  refine ⟨_, rfl, ?_⟩
  have hO23 := hO18.past hb2
  refine rl_ow rfl (ow_storeA rfl rfl (by kernel_rfl) hO23 1 rfl rfl rfl (fun _ => rfl)) ?_
  rintro _ w24 ⟨rfl, hO25, hs26⟩
  refine rl_nil ?_
  refine run_ret Try.func74 (resA Try.results74 rfl Try.underlying101 rfl (by kernel_rfl) hO25 1 rfl) ?_
  exact ⟨x, rfl, hx.done hfx hle, hO25.below⟩

theorem clear_any (ao ac : Option Addr) (n c cc : Nat) (D : Int → Int → Int) (cash : Int → Int) (w : World) (hv : Valid n D) (hc : ∀ i : Int, 0 ≤ i → i < n → 0 ≤ cash i ∧ cash i ≤ 1000000000)
    (h : ITab w.heap.size w ao n (fun _ => n) (fun r c => .int .i64 (D r c))) (hC : IAt w.heap.size w ac n (fun i => .int .i64 (cash i))) :
    Calls Try.prog 73 #[.agg [.slice ao n c, .slice ac n cc].toArray] w fun e w' => ∃ p, e = .returned (arrv 32 (fun i => .int .i64 (p i))) ∧ Clr n D cash (fun _ => true) p ∧ Below w.heap.size w w' := by
  have hpos := hv.pos
  have hle := hv.le
  refine calls_of_run (F := [(0, _)]) Try.func73 rfl Try.ntmps73 rfl rfl ?_
  have hO0 := Own.init w
  refine run_seq ?_
  refine run_region ?_
  refine rl_ow rfl (ow_box _ rfl rfl rfl rfl rfl hO0) ?_
  rintro _ w1 ⟨b1, rfl, hO2, hs3⟩
  refine rl_ow rfl (ow_allocA 32 rfl rfl rfl zero_101 rfl hO2) ?_
  rintro _ w4 ⟨b2, rfl, hO5, hs6⟩
  refine rl_nil ?_
  refine run_seq ?_
  refine run_held (fun w' => Own w.heap.size w w' ([some (lch b1 37 [.slice ao n c, .slice ac n cc])])) mixed ?_
  have hO8 := hO5.drew
  generalize World.drew w4 = w7 at hO8 ⊢
  have hS9 : Own w.heap.size w w7 ([some (lch b1 37 [.slice ao n c, .slice ac n cc])]) := by first | exact hO8.sub (.cons _ (.refl _)) | exact hO8.sub (.cons _ (.cons _ (.refl _))) | exact hO8.sub (.cons _ (.cons _ (.cons _ (.refl _))))
  refine rh_v 0 rfl (by kernel_rfl) rfl rfl rfl hS9 (fun _ hS => ov_loadW rfl Try.underlying37 rfl (by kernel_rfl) rfl hS 0 rfl) ?_
  refine rh_v 2 rfl (by kernel_rfl) rfl rfl rfl hS9 (fun _ hS => ov_fieldS rfl Try.underlying37 rfl (fo := 0) rfl (by kernel_rfl) rfl) ?_
  refine rh_v 3 rfl (by kernel_rfl) rfl rfl rfl hS9 (fun _ hS => ov_load rfl Try.underlying22 rfl rfl (by first | exact hS.cellL 0 rfl rfl)) ?_
  refine rh_v 4 rfl (by kernel_rfl) rfl rfl rfl hS9 (fun _ hS => ov_len rfl Try.underlying22 rfl) ?_
  refine rh_any1 1 (by kernel_rfl) ?_
  refine rc_op rfl rfl (ow_one rfl rfl rfl Try.underlying48 info_4 rfl hO8 rfl rfl) ?_
  rintro _ w10 ⟨b3, rfl, hO11, hs12⟩
  have hS13 : Own w.heap.size w w10 ([some (lch b1 37 [.slice ao n c, .slice ac n cc])]) := by first | exact hO11.sub (.cons _ (.refl _)) | exact hO11.sub (.cons _ (.cons _ (.refl _))) | exact hO11.sub (.cons _ (.cons _ (.cons _ (.refl _))))
  refine ⟨hS13, ?_⟩
  refine rh_any1 5 (by kernel_rfl) ?_
  refine rc_op rfl rfl (ow_call2 callable_90 rfl rfl rfl rfl rfl (repeatBool_any _ _ n true _ hpos (by omega) (hO11.readsI 0 rfl)) (by intro e w' hp; obtain ⟨bl, rfl, hOc⟩ := hp; exact ⟨_, rfl⟩)) ?_
  rintro _ w16 ⟨_, v14, he17, rfl, hp15⟩
  obtain ⟨bl, rfl, hOc⟩ := hp15
  injection he17 with he17; subst he17
  have hO18 := hO11.join hOc
  have hS19 : Own w.heap.size w w16 ([some (lch b1 37 [.slice ao n c, .slice ac n cc])]) := by first | exact hO18.sub (.cons _ (.refl _)) | exact hO18.sub (.cons _ (.cons _ (.refl _))) | exact hO18.sub (.cons _ (.cons _ (.cons _ (.refl _))))
  refine ⟨hS19, ?_⟩
  refine rh_any1 6 (by kernel_rfl) ?_
  refine rc_op rfl rfl (ow_call2 callable_74 rfl rfl rfl rfl rfl (among_any ao ac (some ⟨bl, 0, none⟩) n c cc n D cash (fun _ => true) _ hv hc (h.later hO18.below) (hC.later hO18.below) (hO18.readsI 0 rfl)) (by intro e w' hp; obtain ⟨p, rfl, hp, hb⟩ := hp; exact ⟨_, rfl⟩)) ?_
  rintro _ w22 ⟨_, v20, he23, rfl, hp21⟩
  obtain ⟨p, rfl, hp, hb⟩ := hp21
  injection he23 with he23; subst he23
  have hO24 := hO18.past hb
  have hS25 : Own w.heap.size w w22 ([some (lch b1 37 [.slice ao n c, .slice ac n cc])]) := by first | exact hO24.sub (.cons _ (.refl _)) | exact hO24.sub (.cons _ (.cons _ (.refl _))) | exact hO24.sub (.cons _ (.cons _ (.cons _ (.refl _))))
  refine ⟨hS25, ?_⟩
  refine rh_any1 7 (by kernel_rfl) ?_
  refine rc_op rfl rfl (ow_storeA rfl rfl (by kernel_rfl) hO24 2 rfl rfl rfl (fun _ => rfl)) ?_
  rintro _ w26 ⟨rfl, hO27, hs28⟩
  have hS29 : Own w.heap.size w w26 ([some (lch b1 37 [.slice ao n c, .slice ac n cc])]) := by first | exact hO27.sub (.cons _ (.refl _)) | exact hO27.sub (.cons _ (.cons _ (.refl _))) | exact hO27.sub (.cons _ (.cons _ (.cons _ (.refl _))))
  refine ⟨hS29, ?_⟩
  refine rh_done (by kernel_rfl) ?_
  refine run_ret Try.func73 (resA Try.results73 rfl Try.underlying101 rfl (by kernel_rfl) hO27 2 rfl) ?_
  exact ⟨p, rfl, hp, hO27.below⟩

theorem Clear_any (ao ac : Option Addr) (n c cc : Nat) (D : Int → Int → Int) (cash : Int → Int) (w : World) (hv : Valid n D) (hc : ∀ i : Int, 0 ≤ i → i < n → 0 ≤ cash i ∧ cash i ≤ 1000000)
    (h : ITab w.heap.size w ao n (fun _ => n) (fun r c => .int .i64 (D r c))) (hC : IAt w.heap.size w ac n (fun i => .int .i64 (cash i))) :
    Calls Try.prog 32 #[.agg [.slice ao n c, .slice ac n cc].toArray] w fun e w' => ∃ (v : Value) (p : Int → Int) (c' : Option Blk), e = .returned (.tuple #[v, .int .i64 0]) ∧ Clr n D cash (fun _ => true) p ∧ IRow v 2 n (fun i => .int .i64 (p i)) c' ∧ Own w.heap.size w w' [c'] := by
  have hpos := hv.pos
  have hle := hv.le
  have hchk : chkC n (fun _ => n) D n cash = 0 := by
    unfold chkC
    rw [if_neg (by rw [hv.chk]; simp), if_neg (by omega), if_neg]
    rintro ⟨i, i0, i1, hx⟩
    have := hc i i0 i1
    omega
  refine calls_of_run (F := [(0, _)]) Try.func32 rfl Try.ntmps32 rfl rfl ?_
  have hO0 := Own.init w
  refine run_seq ?_
  refine run_region ?_
  refine rl_ow rfl (ow_box _ rfl rfl rfl rfl rfl hO0) ?_
  rintro _ w1 ⟨b1, rfl, hO2, hs3⟩
  refine rl_v rfl rfl rfl (ov_assign rfl rfl) ?_
  refine rl_v rfl rfl rfl (ov_assign rfl rfl) ?_
  refine rl_nil ?_
  refine run_seq ?_
  refine run_seq ?_
  refine run_region ?_
  refine rl_v rfl rfl rfl (ov_loadW rfl Try.underlying37 rfl (by kernel_rfl) rfl hO2 0 rfl) ?_
  refine rl_call callable_56 rfl rfl rfl rfl rfl rfl (checkCrisis_any ao ac n c n cc (fun _ => n) D cash _ (by omega) (by omega) (h.later hO2.below) (hC.later hO2.below)) (fun e4 w5 hp6 => ?_)
  obtain ⟨rfl, hb⟩ := hp6
  refine ⟨_, rfl, ?_⟩
  have hO7 := hO2.past hb
  rw [hchk]
  refine rl_v rfl rfl rfl (ov_assign rfl rfl) ?_
  refine rl_nil ?_
  refine run_seq ?_
  refine run_region ?_
  refine rl_v rfl rfl rfl (ov_move rfl rfl) ?_
  refine rl_v rfl rfl rfl (ov_neq rfl rfl rfl) ?_
  refine rl_nil ?_
  first | refine run_cond_dec rfl (fun h1 => ?_) (fun h1 => ?_) | refine run_cond rfl (fun h1 => ?_) (fun h1 => ?_)
  · exfalso; exact h1 rfl
  · refine run_skip ?_
    refine run_seq ?_
    refine run_held (fun w' => Own w.heap.size w w' ([some (lch b1 37 [.slice ao n c, .slice ac n cc])])) mixed ?_
    have hO9 := hO7.drew
    generalize World.drew w5 = w8 at hO9 ⊢
    have hS10 : Own w.heap.size w w8 ([some (lch b1 37 [.slice ao n c, .slice ac n cc])]) := by first | exact hO9 | exact hO9.tail
    refine rh_v 0 rfl (by kernel_rfl) rfl rfl rfl hS10 (fun _ hS => ov_loadW rfl Try.underlying37 rfl (by kernel_rfl) rfl hS 0 rfl) ?_
    refine rh_v 1 rfl (by kernel_rfl) rfl rfl rfl hS10 (fun _ hS => ov_loadW rfl Try.underlying37 rfl (by kernel_rfl) rfl hS 0 rfl) ?_
    refine rh_any1 2 (by kernel_rfl) ?_
    refine rc_op rfl rfl (ow_call2 callable_73 rfl rfl rfl rfl rfl (clear_any ao ac n c cc D cash _ hv (fun i i0 i1 => by have := hc i i0 i1; omega) (h.later hO9.below) (hC.later hO9.below)) (by intro e w' hp; obtain ⟨p, rfl, hp, hb2⟩ := hp; exact ⟨_, rfl⟩)) ?_
    rintro _ w13 ⟨_, v11, he14, rfl, hp12⟩
    obtain ⟨p, rfl, hp, hb2⟩ := hp12
    injection he14 with he14; subst he14
    have hO15 := hO9.past hb2
    have hS16 : Own w.heap.size w w13 ([some (lch b1 37 [.slice ao n c, .slice ac n cc])]) := by first | exact hO15 | exact hO15.tail
    refine ⟨hS16, ?_⟩
    refine rh_any1 3 (by kernel_rfl) ?_
    refine rc_op rfl rfl (ow_call2 callable_65 rfl rfl rfl rfl rfl (list_any ao n c (.slice ac n cc) p _ hle) (by intro e w' hp; obtain ⟨v, c', rfl, hr, hO2⟩ := hp; exact ⟨_, rfl⟩)) ?_
    rintro _ w19 ⟨_, v17, he20, rfl, hp18⟩
    obtain ⟨v, c', rfl, hr, hO2⟩ := hp18
    injection he20 with he20; subst he20
    have hO21 := hO15.join hO2
    have hS22 : Own w.heap.size w w19 ([some (lch b1 37 [.slice ao n c, .slice ac n cc])]) := by first | exact hO21 | exact hO21.tail
    refine ⟨hS22, ?_⟩
    refine rh_v 4 rfl (by kernel_rfl) rfl rfl rfl hS22 (fun _ hS => ov_assign rfl rfl) ?_
    refine rh_v 5 rfl (by kernel_rfl) rfl rfl rfl hS22 (fun _ hS => ov_assign rfl rfl) ?_
    refine rh_done (by kernel_rfl) ?_
    refine run_ret Try.func32 (res2 Try.results32 rfl rfl) ?_
    exact ⟨v, p, c', rfl, hp, hr, hO21.sub (.cons_cons _ (List.nil_sublist _))⟩
end Go.Proofs.Ytiambddcpflkhaa
