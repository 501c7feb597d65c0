import Derived.Test.YtlldeifbfpmbaaaGreatNetG
set_option maxRecDepth 100000
namespace Go.Proofs.YtlldeifbfpmbaaaGreat
open Go.RowKit Go.Proofs
theorem repeatBool_any (ao : Option Addr) (c m : Nat) (x : Bool) (w : World) (hm : 1 ≤ m) (hm2 : m ≤ 1000000)
  (h : IAt w.heap.size w ao 1 (fun _ => .bool x)) :
  Calls Tryz.prog 111 #[.slice ao 1 c, .int .i64 m] w fun e w' =>
   ∃ b, e = .returned (.slice (some ⟨b, 0, none⟩) m m) ∧ Own w.heap.size w w' [some (vch b 4 m (fun _ => .bool x))] := by
 obtain ⟨gb, go, hga, hrow⟩ := h.open
 have ew : IntKind.u64.wrap (m : Int) = m := IntWalk.u64_in _ (by omega)
 obtain rfl := hga (by omega)
 have ew1 : IntKind.u64.wrap ((1 : Nat) : Int) * IntKind.u64.wrap (m : Int) = m := by
  rw [ew, show IntKind.u64.wrap ((1 : Nat) : Int) = 1 from IntWalk.u64_in _ (by omega), Int.one_mul]
 have ei : IntKind.i64.wrap (IntKind.u64.wrap ((1 : Nat) : Int) * IntKind.u64.wrap (m : Int)) = m := by rw [ew1]; exact IntWalk.i64_in _ (by omega)
 refine calls_of_run (F := [(0, _), (1, _)]) Tryz.func111 rfl Tryz.ntmps111 rfl rfl ?_
 have hO0 := Own.init w
 refine run_seq <| run_region <| rl_v rfl rfl rfl (ov_assign rfl rfl) <| rl_nil <| run_seq <| run_seq <| run_region <| rl_v rfl rfl rfl (ov_move rfl rfl) <| rl_v rfl rfl rfl (ov_lss rfl rfl rfl) <| rl_nil ?_
 first | refine run_cond_dec rfl (fun h1 => ?_) (fun h1 => ?_) | refine run_cond rfl (fun h1 => ?_) (fun h1 => ?_)
 ·exfalso; omega
 ·refine run_skip <| run_seq <| run_region <| rl_v rfl rfl rfl (ov_move rfl rfl) <| rl_v rfl rfl rfl (ov_len rfl Tryz.underlying75 rfl) <| rl_v rfl rfl rfl (ov_conv rfl Tryz.underlying3 Tryz.underlying49 rfl) <| rl_v rfl rfl rfl (ov_move rfl rfl) <| rl_v rfl rfl rfl (ov_conv rfl Tryz.underlying3 Tryz.underlying49 rfl) ?_
  refine rl_call callable_114 rfl rfl rfl rfl rfl rfl (mul_any _ _ _ ⟨by decide, by decide⟩ ⟨by rw [ew]; omega, by rw [ew]; omega⟩) (fun e1 w2 hp3 => ?_)
  obtain ⟨rfl, hb⟩ := hp3
  refine ⟨_, rfl, ?_⟩
  have hO4 := hO0.past hb
  refine rl_v rfl rfl rfl (ov_move rfl rfl) <| rl_v rfl rfl rfl (ov_extract rfl rfl (by rfl)) ?_
  refine rl_v rfl rfl rfl (ov_extract rfl rfl (by rfl)) ?_
  refine rl_v rfl rfl rfl (ov_assign rfl rfl) <| rl_v rfl rfl rfl (ov_assign rfl rfl) <| rl_nil <| run_seq <| run_seq <| run_region <| rl_v rfl rfl rfl (ov_move rfl rfl) <| rl_v rfl rfl rfl (ov_gtr rfl rfl rfl) <| rl_v rfl rfl rfl (ov_move rfl rfl) ?_
  first | refine rl_split_dec 23 rfl (fun hg5 => ?_) (fun hg5 => ?_) | refine rl_split 23 rfl (fun hg5 => ?_) (fun hg5 => ?_)
  ·refine rl_gskip rfl rfl rfl rfl rfl rfl <| rl_gskip rfl rfl rfl rfl rfl rfl <| rl_v rfl rfl rfl (ov_pick_t rfl rfl rfl) <| rl_nil <| run_cond_t rfl ?_
   exfalso; omega
  ·refine rl_gv rfl rfl rfl rfl rfl (ov_move rfl rfl) <| rl_gv rfl rfl rfl rfl rfl (ov_gtr rfl rfl rfl) <| rl_v rfl rfl rfl (ov_pick_f rfl rfl rfl) <| rl_nil ?_
   first | refine run_cond_dec rfl (fun h3 => ?_) (fun h3 => ?_) | refine run_cond rfl (fun h3 => ?_) (fun h3 => ?_)
   ·exfalso; omega
   ·refine run_skip <| run_seq <| run_region <| rl_v rfl rfl rfl (ov_move rfl rfl) <| rl_v rfl rfl rfl (ov_conv rfl Tryz.underlying49 Tryz.underlying3 rfl) ?_
    refine rl_make (m) rfl rfl rfl rfl Tryz.underlying75 info_4 rfl hO4 rfl rfl (by omega) (by omega) ⟨by omega, by omega⟩ (fun b w6 hO7 hs8 => ?_)
    refine rl_v rfl rfl rfl (ov_assign rfl rfl) <| rl_nil <| run_seq <| run_region <| rl_v rfl rfl rfl (ov_move rfl rfl) <| rl_v rfl rfl rfl (ov_move rfl rfl) <| rl_ow rfl (ow_copy (1) rfl rfl rfl Tryz.underlying75 (by kernel_rfl) hO7 0 rfl rfl rfl (by omega) (by omega) (fun i h0 hi => hrow _ hO7.below i h0 (by omega)) (fun _ => rfl)) ?_
    rintro _ w9 ⟨rfl, hO10, hs11⟩
    refine rl_v rfl rfl rfl (ov_assign rfl rfl) <| rl_nil <| run_seq <| run_block <| Run.keep [7, 8] (F' := [(7, _), (8, _)]) rfl <| run_loop2 (fun (k : Int) (G : Int → Value) => [(8, .int .i64 k)]) [7] (fun (k : Int) (G : Int → Value) (w12 : World) => 1 ≤ k ∧ k ≤ m ∧ (∀ i : Int, 0 ≤ i → i < k → G i = .bool x) ∧ (∀ i, (G i).oneCell' = true) ∧ Own w.heap.size w w12 [some (vch b 4 m G)]) (fun (k : Int) (G : Int → Value) => ((m : Int) - k).toNat) (1) (fun j => if ((0 : Nat) : Int) ≤ j ∧ j < ((0 : Nat) : Int) + ((1 : Nat) : Int) then .bool x else .bool false) ?_ (And.intro (by exact slot_int rfl (by first | omega)) (And.intro rfl trivial)) ?_
    ·exact ⟨by omega, by omega, fun i h0 h1 => if_pos (by omega), fun i => by (dsimp only; split <;> rfl), hO10⟩
    intro k G w12 hIw12 ih13
    obtain ⟨hk0, hk1, hG, hG1, hO⟩ := hIw12
    show Run _ _ _ _ [(8, _), (7, _)] _ _
    refine run_seq <| run_seq <| run_region <| rl_v rfl rfl rfl (ov_move rfl rfl) <| rl_v rfl rfl rfl (ov_move rfl rfl) <| rl_v rfl rfl rfl (ov_len rfl Tryz.underlying75 rfl) <| rl_v rfl rfl rfl (ov_lss rfl rfl rfl) <| rl_nil ?_
    first | refine run_cond_dec rfl (fun h5 => ?_) (fun h5 => ?_) | refine run_cond rfl (fun h5 => ?_) (fun h5 => ?_)
    ·refine run_skip <| run_block <| run_held (fun w' => Own w.heap.size w w' ([none])) mixed ?_
     have hO15 := hO.drew
     generalize World.drew w12 = w14 at hO15 ⊢
     have hS16 : Own w.heap.size w w14 ([none]) := by exact ⟨hO15.below, hO15.hB, by simp, by simp, by simp⟩
     refine rh_v 0 rfl (by kernel_rfl) rfl rfl rfl hS16 (fun _ hS => ov_move rfl rfl) ?_
     refine rh_v 1 rfl (by kernel_rfl) rfl rfl rfl hS16 (fun _ hS => ov_move rfl rfl) ?_
     refine rh_v 2 rfl (by kernel_rfl) rfl rfl rfl hS16 (fun _ hS => ov_move rfl rfl) ?_
     refine rh_v 3 rfl (by kernel_rfl) rfl rfl rfl hS16 (fun _ hS => ov_sliceL rfl Tryz.underlying75 (by kernel_rfl) (s := 1) rfl rfl ⟨by omega, by omega⟩ (by omega) rfl) ?_
     refine rh_v 4 rfl (by kernel_rfl) rfl rfl rfl hS16 (fun _ hS => ov_move rfl rfl) ?_
     refine rh_v 5 rfl (by kernel_rfl) rfl rfl rfl hS16 (fun _ hS => ov_move rfl rfl) ?_
     refine rh_v 6 rfl (by kernel_rfl) rfl rfl rfl hS16 (fun _ hS => ov_sliceH (k.toNat) (s := 1) rfl Tryz.underlying75 (by kernel_rfl) rfl rfl (by omega) (by omega)) ?_
     refine rh_any1 7 (by kernel_rfl) ?_
     refine rc_op rfl rfl (ow_copy ((min k.toNat (m - k.toNat))) rfl rfl rfl Tryz.underlying75 (by kernel_rfl) hO15 0 rfl rfl rfl (by rfl) (by omega) (fun i h0 hi => hO15.cellI 0 rfl i h0 (by omega)) (hG1)) ?_
     rintro _ w17 ⟨rfl, hO18, hs19⟩
     have hS20 : Own w.heap.size w w17 ([none]) := by exact ⟨hO18.below, hO18.hB, by simp, by simp, by simp⟩
     refine ⟨hS20, ?_⟩
     refine rh_v 8 rfl (by kernel_rfl) rfl rfl rfl hS20 (fun _ hS => ov_add rfl rfl rfl (by omega)) ?_
     refine rh_v 9 rfl (by kernel_rfl) rfl rfl rfl hS20 (fun _ hS => ov_assign rfl rfl) ?_
     refine rh_done (by kernel_rfl) ?_
     refine run_inBlock ?_
     refine Run.use (ih13 (k + ((min k.toNat (m - k.toNat) : Nat) : Int)) (fun j => if (((0 + k.toNat * 1 : Nat) : Int)) ≤ j ∧ j < ((0 + k.toNat * 1 : Nat) : Int) + ((min k.toNat (m - k.toNat) : Nat) : Int) then G (j - ((0 + k.toNat * 1 : Nat) : Int)) else G j) _ ?_ ?_) (And.intro (by exact slot_int rfl (by first | omega)) (And.intro rfl trivial))
     ·first | omega | (dsimp only; omega)
     ·exact ⟨by omega, by omega, fun i h0 h1 => by split; exact hG _ (by omega) (by omega); exact hG _ (by omega) (by omega), fun i => by split <;> exact hG1 _, hO18⟩
    ·refine run_exit rfl <| run_seq <| run_region <| rl_v rfl rfl rfl (ov_move rfl rfl) <| rl_v rfl rfl rfl (ov_assign rfl rfl) <| rl_nil <| run_ret Tryz.func111 (res1 Tryz.results111 rfl) ?_
     exact ⟨b, rfl, hO.congrI 0 rfl (fun i h0 hi => hG i h0 (by omega))⟩
theorem cashTells : Tells 108 #[] (fun x => decide (x < 0 ∨ 1000000 < x)) := by
 intro x w
 refine calls_of_run (F := [(0, _)]) Tryz.func108 rfl Tryz.ntmps108 rfl rfl ?_
 have hO0 := Own.init w
 refine run_seq <| run_region <| rl_v rfl rfl rfl (ov_assign rfl rfl) <| rl_nil <| run_seq <| run_region <| rl_v rfl rfl rfl (ov_move rfl rfl) <| rl_v rfl rfl rfl (ov_lss rfl rfl rfl) <| rl_v rfl rfl rfl (ov_move rfl rfl) ?_
 first | refine rl_split_dec 5 rfl (fun hg => ?_) (fun hg => ?_) | refine rl_split 5 rfl (fun hg => ?_) (fun hg => ?_)
 ·refine rl_gskip rfl rfl rfl rfl rfl rfl <| rl_gskip rfl rfl rfl rfl rfl rfl <| rl_v rfl rfl rfl (ov_pick_t rfl rfl rfl) <| rl_v rfl rfl rfl (ov_assign rfl rfl) <| rl_nil <| run_ret Tryz.func108 (res1 Tryz.results108 rfl) ?_
  exact ⟨by congr 2; exact (decide_eq_true (p := x < 0 ∨ 1000000 < x) (.inl hg)).symm, hO0.below⟩
 ·refine rl_gv rfl rfl rfl rfl rfl (ov_move rfl rfl) <| rl_gv rfl rfl rfl rfl rfl (ov_gtr rfl rfl rfl) <| rl_v rfl rfl rfl (ov_pick_f rfl rfl rfl) <| rl_v rfl rfl rfl (ov_assign rfl rfl) <| rl_nil <| run_ret Tryz.func108 (res1 Tryz.results108 rfl) ?_
  exact ⟨by congr 2; exact decide_eq_decide.2 ⟨fun h => .inr h, fun h => h.resolve_left hg⟩, hO0.below⟩
open Classical in
noncomputable def chkC (n : Nat) (L : Int → Nat) (D : Int → Int → Int) (m : Nat) (cash : Int → Int) : Int :=
 if chk n L D ≠ 0 then chk n L D else if m ≠ n then 7 else if ∃ i : Int, 0 ≤ i ∧ i < m ∧ (cash i < 0 ∨ 1000000 < cash i) then 1 else 0
theorem checkCrisis_any (ao ac : Option Addr) (n c m cm : Nat) (L : Int → Nat) (D : Int → Int → Int) (cash : Int → Int) (w : World) (hn : n ≤ 1000000000000000) (_ : m ≤ 1000000000000000)
  (h : ITab w.heap.size w ao n L (fun r c => .int .i64 (D r c))) (h2 : IAt w.heap.size w ac m (fun i => .int .i64 (cash i))) :
  Calls Tryz.prog 69 #[.agg [.slice ao n c, .slice ac m cm].toArray] w fun e w' => e = .returned (.int .i64 (chkC n L D m cash)) ∧ Below w.heap.size w w' := by
 refine calls_of_run (F := [(0, _)]) Tryz.func69 rfl Tryz.ntmps69 rfl rfl ?_
 have hO0 := Own.init w
 refine run_seq <| run_region <| rl_ow rfl (ow_box _ rfl rfl rfl rfl rfl hO0) ?_
 rintro _ w1 ⟨b, rfl, hO2, hs3⟩
 refine rl_v rfl rfl rfl (ov_assign rfl rfl) <| rl_nil <| run_seq <| run_seq <| run_region <| rl_v rfl rfl rfl (ov_fieldS rfl Tryz.underlying73 rfl (fo := 0) rfl (by kernel_rfl) rfl) ?_
 refine rl_v rfl rfl rfl (ov_load rfl Tryz.underlying64 rfl rfl (by exact hO2.cellL 0 rfl rfl)) ?_
 refine rl_call callable_60 rfl rfl rfl rfl rfl rfl (check_any ao n c L D _ hn (h.later hO2.below)) (fun e4 w5 hp6 => ?_)
 obtain ⟨rfl, hb⟩ := hp6
 refine ⟨_, rfl, ?_⟩
 have hO7 := hO2.past hb
 refine rl_v rfl rfl rfl (ov_assign rfl rfl) <| rl_nil <| run_seq <| run_region <| rl_v rfl rfl rfl (ov_move rfl rfl) <| rl_v rfl rfl rfl (ov_neq rfl rfl rfl) <| rl_nil ?_
 first | refine run_cond_dec rfl (fun h1 => ?_) (fun h1 => ?_) | refine run_cond rfl (fun h1 => ?_) (fun h1 => ?_)
 ·refine run_seq <| run_region <| rl_v rfl rfl rfl (ov_move rfl rfl) <| rl_v rfl rfl rfl (ov_assign rfl rfl) <| rl_nil <| run_ret Tryz.func69 (res1 Tryz.results69 rfl) ?_
  exact ⟨by unfold chkC; rw [if_pos h1], hO7.below⟩
 ·refine run_skip <| run_seq <| run_seq <| run_region <| rl_v rfl rfl rfl (ov_fieldS rfl Tryz.underlying73 rfl (fo := 1) rfl (by kernel_rfl) rfl) ?_
  refine rl_v rfl rfl rfl (ov_load rfl Tryz.underlying65 rfl rfl (by exact hO7.cellL 0 rfl rfl)) ?_
  refine rl_v rfl rfl rfl (ov_len rfl Tryz.underlying65 rfl) <| rl_v rfl rfl rfl (ov_fieldS rfl Tryz.underlying73 rfl (fo := 0) rfl (by kernel_rfl) rfl) ?_
  refine rl_v rfl rfl rfl (ov_load rfl Tryz.underlying64 rfl rfl (by exact hO7.cellL 0 rfl rfl)) ?_
  refine rl_v rfl rfl rfl (ov_len rfl Tryz.underlying64 rfl) <| rl_v rfl rfl rfl (ov_neq rfl rfl rfl) <| rl_nil ?_
  first | refine run_cond_dec rfl (fun h3 => ?_) (fun h3 => ?_) | refine run_cond rfl (fun h3 => ?_) (fun h3 => ?_)
  ·refine run_seq <| run_region <| rl_v rfl rfl rfl (ov_assign rfl rfl) <| rl_nil <| run_ret Tryz.func69 (res1 Tryz.results69 rfl) ?_
   exact ⟨by unfold chkC; rw [if_neg (by simpa using h1), if_pos (by omega)], hO7.below⟩
  ·refine run_skip <| run_seq <| run_seq <| run_region <| rl_v rfl rfl rfl (ov_fieldS rfl Tryz.underlying73 rfl (fo := 1) rfl (by kernel_rfl) rfl) ?_
   refine rl_v rfl rfl rfl (ov_load rfl Tryz.underlying65 rfl rfl (by exact hO7.cellL 0 rfl rfl)) ?_
   refine rl_call callable_107 rfl rfl rfl rfl rfl rfl (containsFunc_any ac m cm cash _ #[] _ _ callable_108 cashTells (h2.later hO7.below) (by omega)) (fun e8 w9 hp10 => ?_)
   obtain ⟨bb, rfl, hbb, hb2⟩ := hp10
   refine ⟨_, rfl, ?_⟩
   have hO11 := hO7.past hb2
   refine rl_nil ?_
   first | refine run_cond_dec rfl (fun h4 => ?_) (fun h4 => ?_) | refine run_cond rfl (fun h4 => ?_) (fun h4 => ?_)
   ·refine run_seq <| run_region <| rl_v rfl rfl rfl (ov_assign rfl rfl) <| rl_nil <| run_ret Tryz.func69 (res1 Tryz.results69 rfl) ?_
    exact ⟨by unfold chkC; rw [if_neg (by simpa using h1), if_neg (by omega), if_pos (by obtain ⟨i, a, b, e⟩ := hbb.1 h4; exact ⟨i, a, b, by simpa using e⟩)], hO11.below⟩
   ·refine run_skip <| run_seq <| run_region <| rl_v rfl rfl rfl (ov_assign rfl rfl) <| rl_nil <| run_ret Tryz.func69 (res1 Tryz.results69 rfl) ?_
    exact ⟨by unfold chkC; rw [if_neg (by simpa using h1), if_neg (by omega), if_neg (by rintro ⟨i, a, b, e⟩; have := hbb.2 ⟨i, a, b, by simpa using e⟩; simp [h4] at this)], hO11.below⟩
def amF (n : Nat) (D : Int → Int → Int) (cash : Int → Int) (inn : Int → Bool) (x : Int → Int) (i : Int) : Int := if 0 ≤ i ∧ i < n ∧ inn i = true then min (ow n D i) (cash i + rcv n D x i) else x i
theorem rcv_rng {n : Nat} {D : Int → Int → Int} (hv : Valid n D) (p : Int → Int) (hp : ∀ i : Int, 0 ≤ i → i < n → 0 ≤ p i ∧ p i ≤ ow n D i) (j : Int) : 0 ≤ rcv n D p j ∧ rcv n D p j ≤ 32000000 := by
 have h1 : 0 ≤ rcv n D p j := sm_nonneg fun i i0 i1 => (quo_rng hv (p i) i j (hp i i0 i1).1 (hp i i0 i1).2).1
 have h2 : rcv n D p j ≤ n * 1000000 := sm_bound _ (by omega) fun i i0 i1 => by have := (quo_rng hv (p i) i j (hp i i0 i1).1 (hp i i0 i1).2).2; have := hv.hi i j; omega
 have := hv.le
 omega
theorem step1_any (b1 b2 b3 : Nat) (ao ac ai : Option Addr) (n c cc ci : Nat) (D : Int → Int → Int) (cash : Int → Int) (inn : Int → Bool) (x : Int → Int) (w : World) (hv : Valid n D) (hc : ∀ i : Int, 0 ≤ i → i < n → 0 ≤ cash i ∧ cash i ≤ 1000000000)
  (hL1 : LAt w.heap.size w b1 [.slice ao n c, .slice ac n cc]) (hI2 : IAt w.heap.size w (some ⟨b2, 0, none⟩) 32 (fun i => .int .i64 (upto n (ow n D) i))) (hL3 : LAt w.heap.size w b3 [.slice ai n ci])
  (h : ITab w.heap.size w ao n (fun _ => n) (fun r c => .int .i64 (D r c))) (hC : IAt w.heap.size w ac n (fun i => .int .i64 (cash i))) (hN : IAt w.heap.size w ai n (fun i => .bool (inn i))) (hx : ∀ i : Int, 0 ≤ i → i < n → 0 ≤ x i ∧ x i ≤ ow n D i) :
  Calls Tryz.prog 128 (#[arrv 32 (fun i => .int .i64 (x i))] ++ #[.pointer (some ⟨b1, 0, none⟩), .pointer (some ⟨b2, 0, none⟩), .pointer (some ⟨b3, 0, none⟩)]) w fun e w' => e = .returned (arrv 32 (fun i => .int .i64 (amF n D cash inn x i))) ∧ Below w.heap.size w w' := by
 have hle := hv.le
 have hl1 := hL1.open
 have hl3 := hL3.open
 obtain ⟨gc, oc, hgc, hcash⟩ := hC.open
 obtain ⟨gn, on, hgn, hinn⟩ := hN.open
 obtain ⟨q2, o2, e2, how⟩ := hI2.open
 cases e2 (by omega)
 refine calls_of_run (F := [(0, _), (1, _), (2, _), (3, _)]) Tryz.func128 rfl Tryz.ntmps128 rfl rfl ?_
 have hO0 := Own.init w
 refine run_seq <| run_region <| rl_ow rfl (ow_boxA rfl rfl rfl rfl hO0) ?_
 rintro _ w1 ⟨b4, rfl, hO2, hs3⟩
 refine rl_ow rfl (ow_allocA 32 rfl rfl rfl zero_132 rfl hO2) ?_
 rintro _ w4 ⟨b5, rfl, hO5, hs6⟩
 refine rl_nil <| run_seq <| run_region <| rl_v rfl rfl rfl (ov_loadN rfl Tryz.underlying73 rfl (by kernel_rfl) rfl (hL1.range _ hO5.below)) ?_
 refine rl_v rfl rfl rfl (ov_loadA rfl Tryz.underlying132 rfl (by kernel_rfl) rfl hO5 1 rfl) ?_
 refine rl_v rfl rfl rfl (ov_loadR rfl Tryz.underlying132 rfl (by kernel_rfl) rfl hI2 hO5.below) ?_
 refine rl_call callable_129 rfl rfl rfl rfl rfl rfl (received_any ao n c D (.slice ac n cc) x (upto n (ow n D)) _ hv (fun i i0 i1 => upto_in i0 i1) hx (h.later hO5.below)) (fun e7 w8 hp9 => ?_)
 obtain ⟨rfl, hb⟩ := hp9
 refine ⟨_, rfl, ?_⟩
 have hO10 := hO5.past hb
 refine rl_ow rfl (ow_allocA 32 rfl rfl rfl zero_132 rfl hO10) ?_
 rintro _ w11 ⟨b6, rfl, hO12, hs13⟩
 refine rl_ow rfl (ow_storeA rfl rfl (by kernel_rfl) hO12 0 rfl rfl rfl (fun _ => rfl)) ?_
 rintro _ w14 ⟨rfl, hO15, hs16⟩
 refine rl_nil <| run_seq <| run_seq <| run_region <| rl_v rfl rfl rfl (ov_fieldS rfl Tryz.underlying73 rfl (fo := 0) rfl (by kernel_rfl) rfl) ?_
 refine rl_v rfl rfl rfl (ov_load rfl Tryz.underlying64 rfl rfl (by exact hl1 _ hO15.below rfl)) ?_
 refine rl_v rfl rfl rfl (ov_len rfl Tryz.underlying64 rfl) <| rl_v rfl rfl rfl (ov_move rfl rfl) <| rl_nil <| run_block <| Run.keep [1, 2, 3, 4, 5, 6, 14, 15] (F' := [(1, _), (2, _), (3, _), (4, _), (5, _), (6, _), (14, _), (15, _)]) rfl <| run_loop2 (fun (k : Int) (g : Int → Int) => [(15, .int .i64 k)]) [1, 2, 3, 4, 5, 6, 14] (fun (k : Int) (g : Int → Int) (w17 : World) => 0 ≤ k ∧ k ≤ n ∧ (∀ i : Int, 0 ≤ i → i < 32 → g i = if i < k then amF n D cash inn x i else x i) ∧ Own w.heap.size w w17 [some (vch b6 132 32 (fun i => .int .i64 (upto n (rcv n D x) i))), some (vch b5 132 32 (fun _ => .int .i64 0)), some (vch b4 132 32 (fun i => .int .i64 (g i)))]) (fun (k : Int) (g : Int → Int) => ((n : Int) - k).toNat) (0) (x) ?_ (And.intro (by exact slot_int rfl (by first | omega)) (And.intro rfl (And.intro rfl (And.intro rfl (And.intro rfl (And.intro rfl (And.intro rfl (And.intro rfl trivial)))))))) ?_
 ·exact ⟨by omega, by omega, fun i i0 i1 => by rw [if_neg (by omega)], hO15⟩
 intro k g w17 hIw17 ih18
 obtain ⟨hk0, hk1, hg, hO⟩ := hIw17
 show Run _ _ _ _ [(15, _), (1, _), (2, _), (3, _), (4, _), (5, _), (6, _), (14, _)] _ _
 refine run_seq <| run_region <| rl_v rfl rfl rfl (ov_lss rfl rfl rfl) <| rl_nil <| run_seq ?_
 first | refine run_cond_dec rfl (fun h1 => ?_) (fun h1 => ?_) | refine run_cond rfl (fun h1 => ?_) (fun h1 => ?_)
 ·have hr := rcv_rng hv x hx k
  have hck := hc k hk0 h1
  refine run_skip <| run_seq <| run_block <| run_seq <| run_region <| rl_v rfl rfl rfl (ov_move rfl rfl) <| rl_v rfl rfl rfl (ov_assign rfl rfl) <| rl_nil <| run_seq <| run_region <| rl_v rfl rfl rfl (ov_load rfl Tryz.underlying75 rfl rfl (by exact hl3 _ hO.below rfl)) ?_
  refine rl_v rfl rfl rfl (ov_move rfl rfl) <| rl_v rfl rfl rfl (ov_index1 rfl Tryz.underlying75 (by kernel_rfl) rfl rfl ⟨by omega, by omega⟩ (by exact hgn (by omega))) ?_
  refine rl_v rfl rfl rfl (ov_load rfl Tryz.underlying4 rfl rfl (by exact hinn _ hO.below _ (by omega) (by omega))) ?_
  refine rl_nil ?_
  first | refine run_cond_dec rfl (fun h2 => ?_) (fun h2 => ?_) | refine run_cond rfl (fun h2 => ?_) (fun h2 => ?_)
  ·refine run_tail 15 mixed (by kernel_rfl) ?_
   have hO20 := hO.drew
   generalize World.drew w17 = w19 at hO20 ⊢
   refine rt_v rfl rfl rfl (ov_move rfl rfl) <| rt_v rfl rfl rfl (ov_move rfl rfl) <| rt_v rfl rfl rfl (ov_indexA1 rfl Tryz.underlying132 (by kernel_rfl) rfl rfl ⟨by omega, by omega⟩) ?_
   refine rt_v rfl rfl rfl (ov_load rfl Tryz.underlying2 rfl rfl (by exact how _ hO20.below _ (by omega) (by omega))) ?_
   refine rt_v rfl rfl rfl (ov_fieldS rfl Tryz.underlying73 rfl (fo := 1) rfl (by kernel_rfl) rfl) ?_
   refine rt_v rfl rfl rfl (ov_load rfl Tryz.underlying65 rfl rfl (by exact hl1 _ hO20.below rfl)) ?_
   refine rt_v rfl rfl rfl (ov_move rfl rfl) <| rt_v rfl rfl rfl (ov_index1 rfl Tryz.underlying65 (by kernel_rfl) rfl rfl ⟨by omega, by omega⟩ (by exact hgc (by omega))) ?_
   refine rt_v rfl rfl rfl (ov_load rfl Tryz.underlying2 rfl rfl (by exact hcash _ hO20.below _ (by omega) (by omega))) ?_
   refine rt_v rfl rfl rfl (ov_move rfl rfl) <| rt_v rfl rfl rfl (ov_indexA1 rfl Tryz.underlying132 (by kernel_rfl) rfl rfl ⟨by omega, by omega⟩) ?_
   refine rt_v rfl rfl rfl (ov_load rfl Tryz.underlying2 rfl rfl (by exact hO20.cellI 0 rfl _ (by omega) (by omega))) ?_
   refine rt_v rfl rfl rfl (ov_add rfl rfl rfl (by rw [upto_in hk0 h1]; omega)) ?_
   refine rt_v rfl rfl rfl (ov_min rfl rfl rfl) <| rt_v rfl rfl rfl (ov_indexA1 rfl Tryz.underlying132 (by kernel_rfl) rfl rfl ⟨by omega, by omega⟩) ?_
   refine rt_nil <| rl_ow rfl (ow_storeI rfl rfl (by kernel_rfl) hO20 2 rfl rfl ⟨by omega, by omega⟩ rfl) ?_
   rintro _ w21 ⟨rfl, hO22, hs23⟩
   refine rl_nil <| run_inBlock <| run_region <| rl_v rfl rfl rfl (ov_add rfl rfl rfl (by omega)) ?_
   refine rl_v rfl rfl rfl (ov_move rfl rfl) <| rl_nil ?_
   refine Run.use (ih18 (k + 1) (upd g k (min (upto n (ow n D) k) (cash k + upto n (rcv n D x) k))) _ ?_ ?_) (And.intro (by exact slot_int rfl (by first | omega)) (And.intro rfl (And.intro rfl (And.intro rfl (And.intro rfl (And.intro rfl (And.intro rfl (And.intro rfl trivial))))))))
   ·first | omega | (dsimp only; omega)
   ·exact ⟨by omega, by omega, fun i i0 i1 => by unfold upd; split; (rename_i e; rw [e, if_pos (by omega), upto_in hk0 h1, upto_in hk0 h1]; unfold amF; rw [if_pos ⟨hk0, h1, h2⟩]); (rename_i e; rw [hg i i0 i1]; split <;> split <;> first | rfl | omega), hO22⟩
  ·refine run_skip <| run_inBlock <| run_region <| rl_v rfl rfl rfl (ov_add rfl rfl rfl (by omega)) ?_
   refine rl_v rfl rfl rfl (ov_move rfl rfl) <| rl_nil ?_
   refine Run.use (ih18 (k + 1) (g) _ ?_ ?_) (And.intro (by exact slot_int rfl (by first | omega)) (And.intro rfl (And.intro rfl (And.intro rfl (And.intro rfl (And.intro rfl (And.intro rfl (And.intro rfl trivial))))))))
   ·first | omega | (dsimp only; omega)
   ·exact ⟨by omega, by omega, fun i i0 i1 => by rw [hg i i0 i1]; by_cases e : i = k; (subst e; rw [if_neg (Int.lt_irrefl _), if_pos (by omega)]; unfold amF; rw [if_neg (by simp [h2])]); (split <;> split <;> first | rfl | omega), hO⟩
 ·refine run_exit rfl <| run_seq <| run_region <| rl_v rfl rfl rfl (ov_loadA rfl Tryz.underlying132 rfl (by kernel_rfl) rfl hO 2 rfl) ?_
  refine rl_ow rfl (ow_storeA rfl rfl (by kernel_rfl) hO 1 rfl rfl rfl (fun _ => rfl)) ?_
  rintro _ w24 ⟨rfl, hO25, hs26⟩
  refine rl_nil <| run_ret Tryz.func128 (resA Tryz.results128 rfl Tryz.underlying132 rfl (by kernel_rfl) hO25 1 rfl) ?_
  exact ⟨by congr 1; exact arrv_congr fun i i0 i1 => by rw [hg i i0 i1]; split; rfl; (unfold amF; rw [if_neg (by omega)]), hO25.below⟩
end Go.Proofs.YtlldeifbfpmbaaaGreat
