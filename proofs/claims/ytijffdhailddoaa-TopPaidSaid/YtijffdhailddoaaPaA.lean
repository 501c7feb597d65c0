import Derived.Test.YtijffdhailddoaaSeM
import Derived.Test.YtijffdhailddoaaLaw0
import Derived.Test.YtijffdhailddoaaNetL
set_option maxRecDepth 100000
namespace Go.Proofs.Ytijffdhailddoaa
open Go.RowKit Go.Proofs
theorem in_yes (x lo hi : Int) (w : World) (h : lo ≤ x ∧ x ≤ hi) : Calls Try.prog 45 #[iv x, iv lo, iv hi] w fun e w' => e = .returned (.bool true) ∧ w' = w := by
 refine calls_of_run (F := [(0, _), (1, _), (2, _)]) Try.func45 rfl Try.ntmps45 rfl rfl ?_
 have hO0 := Own.init w
 refine run_seq <| run_region <| rl_v rfl rfl rfl (ov_assign rfl rfl) <| rl_nil <| run_seq <| run_region <| rl_v rfl rfl rfl (ov_move rfl rfl) <| rl_v rfl rfl rfl (ov_move rfl rfl) <| rl_v rfl rfl rfl (ov_geq rfl rfl rfl) <| rl_v rfl rfl rfl (ov_move rfl rfl) ?_
 first | refine rl_yesD 10 rfl (h.1) ?_ | refine rl_yes 10 rfl (h.1) ?_
 refine rl_gv rfl rfl rfl rfl rfl (ov_move rfl rfl) <| rl_gv rfl rfl rfl rfl rfl (ov_move rfl rfl) <| rl_gv rfl rfl rfl rfl rfl (ov_leq rfl rfl rfl) <| rl_v rfl rfl rfl (ov_pick_t rfl rfl rfl) <| rl_v rfl rfl rfl (ov_assign rfl rfl) <| rl_nil <| run_ret Try.func45 (res1 Try.results45 rfl) ?_
 exact ⟨by rw [decide_eq_true h.2], rfl⟩
theorem price_ok (x : Int) (w : World) (h : 1 ≤ x ∧ x ≤ 1000000) : Calls Try.prog 48 #[iv x] w fun e w' => e = .returned (.bool false) ∧ w' = w := by
 refine calls_of_run (F := [(0, _)]) Try.func48 rfl Try.ntmps48 rfl rfl ?_
 have hO0 := Own.init w
 refine run_seq <| run_region <| rl_v rfl rfl rfl (ov_assign rfl rfl) <| rl_nil <| run_seq <| run_region <| rl_v rfl rfl rfl (ov_move rfl rfl) ?_
 refine rl_call callable_45 rfl rfl rfl rfl rfl rfl (in_yes x 1 1000000 w h) (fun e1 w2 hp3 => ?_)
 obtain ⟨rfl, hw⟩ := hp3
 refine ⟨_, rfl, ?_⟩
 subst hw
 refine rl_v rfl rfl rfl (ov_not rfl rfl) <| rl_v rfl rfl rfl (ov_assign rfl rfl) <| rl_nil <| run_ret Try.func48 (res1 Try.results48 rfl) ?_
 exact ⟨rfl, rfl⟩
theorem priceIx (ao : Option Addr) (n c B : Nat) (g : Int → Int) (H : List (Option Blk)) (w0 w : World) (hO : Own B w0 w H) (hs : SrcI H ao n g) (hn : n ≤ 4000000000000) (hg : ∀ i : Int, 0 ≤ i → i < n → 1 ≤ g i ∧ g i ≤ 1000000) :
  Calls Try.prog 39 #[.slice ao n c, .func (.func 48) #[] #[]] w fun e w' => e = .returned (iv (-1)) ∧ w' = w := by
 obtain ⟨gb, go, hga, hrow⟩ := (hs B w0 w hO).open
 refine calls_of_run (F := [(0, _), (1, _)]) Try.func39 rfl Try.ntmps39 rfl rfl ?_
 have hO0 := Own.init w
 refine run_seq <| run_region <| rl_v rfl rfl rfl (ov_assign rfl rfl) <| rl_nil <| run_seq <| run_seq <| run_region <| rl_v rfl rfl rfl (ov_move rfl rfl) <| rl_v rfl rfl rfl (ov_len rfl Try.underlying23 rfl) <| rl_v rfl rfl rfl (ov_move rfl rfl) <| rl_nil <| run_block <| Run.keep [0, 1, 7, 8] (F' := [(0, _), (1, _), (7, _), (8, _)]) rfl <| run_loop1 (fun (k : Int) => [(8, .int .i64 k)]) [0, 1, 7] (fun (k : Int) (w1 : World) => 0 ≤ k ∧ k ≤ n ∧ w1 = w) (fun (k : Int) => ((n : Int) - k).toNat) (0) ?_ (And.intro (by exact slot_int rfl (by first | omega)) (And.intro rfl (And.intro rfl (And.intro rfl trivial)))) ?_
 ·exact ⟨by omega, by omega, rfl⟩
 intro k w1 hIw1 ih2
 obtain ⟨hk0, hk1, hw⟩ := hIw1
 show Run _ _ _ _ [(8, _), (0, _), (1, _), (7, _)] _ _
 subst hw
 refine run_seq <| run_region <| rl_v rfl rfl rfl (ov_lss rfl rfl rfl) <| rl_nil <| run_seq ?_
 first | refine run_cond_dec rfl (fun h1 => ?_) (fun h1 => ?_) | refine run_cond rfl (fun h1 => ?_) (fun h1 => ?_)
 ·refine run_skip <| run_seq <| run_block <| run_seq <| run_region <| rl_v rfl rfl rfl (ov_move rfl rfl) <| rl_v rfl rfl rfl (ov_assign rfl rfl) <| rl_nil <| run_seq <| run_region <| rl_v rfl rfl rfl (ov_move rfl rfl) <| rl_v rfl rfl rfl (ov_move rfl rfl) <| rl_v rfl rfl rfl (ov_move rfl rfl) <| rl_v rfl rfl rfl (ov_index1 rfl Try.underlying23 (by kernel_rfl) rfl rfl ⟨by omega, by omega⟩ (by exact (hga (by omega)))) ?_
  refine rl_v rfl rfl rfl (ov_load rfl Try.underlying2 rfl rfl (by exact hrow _ (Below.refl _ _) k (by omega) (by omega))) ?_
  refine rl_call callable_48 rfl rfl rfl rfl rfl rfl (price_ok (g k) w1 (hg k hk0 h1)) (fun e3 w4 hp5 => ?_)
  obtain ⟨rfl, hw2⟩ := hp5
  refine ⟨_, rfl, ?_⟩
  subst hw2
  refine rl_nil ?_
  first | refine run_cond_dec rfl (fun h2 => ?_) (fun h2 => ?_) | refine run_cond rfl (fun h2 => ?_) (fun h2 => ?_)
  ·exfalso; exact Bool.noConfusion h2
  ·refine run_skip <| run_inBlock <| run_region <| rl_v rfl rfl rfl (ov_add rfl rfl rfl (by omega)) ?_
   refine rl_v rfl rfl rfl (ov_move rfl rfl) <| rl_nil ?_
   refine Run.use (ih2 _ _ ?_ ?_) (And.intro (by rfl) (And.intro rfl (And.intro rfl (And.intro rfl trivial))))
   ·first | omega | (dsimp only; omega)
   ·exact ⟨by omega, by omega, rfl⟩
 ·refine run_exit rfl <| run_seq <| run_region <| rl_v rfl rfl rfl (ov_assign rfl rfl) <| rl_nil <| run_ret Try.func39 (res1 Try.results39 rfl) ?_
  exact ⟨rfl, rfl⟩
theorem priceIs (ao : Option Addr) (n c B : Nat) (g : Int → Int) (H : List (Option Blk)) (w0 w : World) (hO : Own B w0 w H) (hs : SrcI H ao n g) (hn : n ≤ 4000000000000) (hg : ∀ i : Int, 0 ≤ i → i < n → 1 ≤ g i ∧ g i ≤ 1000000) :
  Calls Try.prog 21 #[.slice ao n c, .func (.func 48) #[] #[]] w fun e w' => e = .returned (.bool false) ∧ w' = w := by
 refine calls_of_run (F := [(0, _), (1, _)]) Try.func21 rfl Try.ntmps21 rfl rfl ?_
 have hO0 := Own.init w
 refine run_seq <| run_region <| rl_v rfl rfl rfl (ov_assign rfl rfl) <| rl_nil <| run_seq <| run_region <| rl_v rfl rfl rfl (ov_move rfl rfl) <| rl_v rfl rfl rfl (ov_move rfl rfl) ?_
 refine rl_call callable_39 rfl rfl rfl rfl rfl rfl (priceIx ao n c B g H w0 w hO hs hn hg) (fun e1 w2 hp3 => ?_)
 obtain ⟨rfl, hw2⟩ := hp3
 refine ⟨_, rfl, ?_⟩
 refine rl_v rfl rfl rfl (ov_geq rfl rfl rfl) <| rl_v rfl rfl rfl (ov_assign rfl rfl) <| rl_nil <| run_ret Try.func21 (res1 Try.results21 rfl) ?_
 exact ⟨rfl, hw2⟩
theorem movesIx (f : Value) (w : World) : Calls Try.prog 55 #[.slice none 0 0, f] w fun e w' => e = .returned (iv (-1)) ∧ w' = w := by
 refine calls_of_run (F := [(0, _), (1, _)]) Try.func55 rfl Try.ntmps55 rfl rfl ?_
 have hO0 := Own.init w
 refine run_seq <| run_region <| rl_v rfl rfl rfl (ov_assign rfl rfl) <| rl_nil <| run_seq <| run_seq <| run_region <| rl_v rfl rfl rfl (ov_move rfl rfl) <| rl_v rfl rfl rfl (ov_len rfl Try.underlying22 rfl) <| rl_v rfl rfl rfl (ov_move rfl rfl) <| rl_nil <| run_block <| run_once <| run_seq <| run_region <| rl_v rfl rfl rfl (ov_lss rfl rfl rfl) <| rl_nil <| run_seq ?_
 first | refine run_cond_dec rfl (fun q => ?_) (fun q => ?_) | refine run_cond rfl (fun q => ?_) (fun q => ?_)
 ·exfalso; omega
 ·refine run_exit rfl <| run_seq <| run_region <| rl_v rfl rfl rfl (ov_assign rfl rfl) <| rl_nil <| run_ret Try.func55 (res1 Try.results55 rfl) ?_
  exact ⟨rfl, rfl⟩
theorem movesIs (f : Value) (w : World) : Calls Try.prog 46 #[.slice none 0 0, f] w fun e w' => e = .returned (.bool false) ∧ w' = w := by
 refine calls_of_run (F := [(0, _), (1, _)]) Try.func46 rfl Try.ntmps46 rfl rfl ?_
 have hO0 := Own.init w
 refine run_seq <| run_region <| rl_v rfl rfl rfl (ov_assign rfl rfl) <| rl_nil <| run_seq <| run_region <| rl_v rfl rfl rfl (ov_move rfl rfl) <| rl_v rfl rfl rfl (ov_move rfl rfl) ?_
 refine rl_call callable_55 rfl rfl rfl rfl rfl rfl (movesIx f w) (fun e1 w2 hp3 => ?_)
 obtain ⟨rfl, hw2⟩ := hp3
 refine ⟨_, rfl, ?_⟩
 refine rl_v rfl rfl rfl (ov_geq rfl rfl rfl) <| rl_v rfl rfl rfl (ov_assign rfl rfl) <| rl_nil <| run_ret Try.func46 (res1 Try.results46 rfl) ?_
 exact ⟨rfl, hw2⟩
theorem monthsOf_any (sb sc B : Nat) (U : Int → Value) (H : List (Option Blk)) (w0 w : World) (hO : Own B w0 w H) (hU : ∀ j, (U j).oneCell' = true) (hs : ∀ (w1 : World) (H1 : List (Option Blk)), Own B w0 w1 H1 → List.Sublist H H1 → w1.cell? ⟨sb, 0, none⟩ = some (U 0)) :
  Calls Try.prog 49 #[.slice (some ⟨sb, 0, none⟩) 1 sc] w fun e w' => ∃ G : Int → Value, e = .returned (arrv 12 G) ∧ Own B w0 w' H := by
 refine calls_of_run (F := [(0, _)]) Try.func49 rfl Try.ntmps49 rfl rfl <| run_seq <| run_region <| rl_ow rfl (ow_allocA 12 rfl rfl rfl zero_130 rfl hO) ?_
 rintro _ w1 ⟨b2, rfl, hO2, hs3⟩
 refine rl_nil <| run_seq <| run_region <| rl_ow rfl (ow_allocA 12 rfl rfl rfl zero_130 rfl hO2) ?_
 rintro _ w4 ⟨b3, rfl, hO5, hs6⟩
 refine rl_nil <| run_seq <| run_region <| rl_v rfl rfl rfl (ov_sliceAF (s := 1) rfl Try.underlying130 (by kernel_rfl) rfl) ?_
 refine rl_v rfl rfl rfl (ov_move rfl rfl) <| rl_ow rfl (ow_copy (1) rfl rfl rfl Try.underlying23 (by kernel_rfl) hO5 0 rfl rfl rfl (by rfl) (by omega) (fun i h0 hi => by { obtain rfl : i = 0 := (by omega); exact hs _ _ hO5 (.cons _ (.cons _ (.refl _))) }) (hU)) ?_
 rintro _ w7 ⟨rfl, hO8, hs9⟩
 refine rl_nil <| run_seq <| run_region <| rl_v rfl rfl rfl (ov_loadA rfl Try.underlying130 rfl (by kernel_rfl) rfl hO8 0 rfl) ?_
 refine rl_ow rfl (ow_storeA rfl rfl (by kernel_rfl) hO8 1 rfl rfl rfl (fun _ => by split <;> first | exact hU _ | rfl)) ?_
 rintro _ w10 ⟨rfl, hO11, hs12⟩
 refine rl_nil <| run_ret Try.func49 (resA Try.results49 rfl Try.underlying130 rfl (by kernel_rfl) hO11 1 rfl) ?_
 exact ⟨_, rfl, hO11.tail.tail⟩
def acc0 : List Value := [iv 0, iv 0, iv 0, iv 0, iv 0, iv 0, iv 0, iv 0, iv 0, iv 0, iv 0, iv 0, iv 0, iv 0, .bool false]
def hcl (m : Int) (G : Int → Value) (acc : Value) : List Value := [iv m, G 0, G 1, G 2, G 3, G 4, G 5, G 6, G 7, G 8, G 9, G 10, G 11, .slice none 0 0, iv 0, iv 0, iv 0, acc, .slice none 0 0]
theorem built_house (m : Int) (G : Int → Value) (a : Option Addr) (n c : Nat) : Try.prog.built 136 [(0, iv m), (1, arrv 12 G), (3, iv 0), (4, iv 0), (6, .slice a n c)] = some (hcl m G (.slice a n c)).toArray := by kernel_rfl
theorem ov_buildHouse {N : Nat} {o : Oper} {F : Fr} {w : World} {x0 x1 x3 x4 x6 : Operand} {m : Int} {G : Int → Value} {a : Option Addr} {n c : Nat} (ho : o.op = .build 136 #[(0, x0), (1, x1), (3, x3), (4, x4), (6, x6)]) (h0 : Fr.ev F x0 = some (iv m)) (h1 : Fr.ev F x1 = some (arrv 12 G)) (h3 : Fr.ev F x3 = some (iv 0)) (h4 : Fr.ev F x4 = some (iv 0)) (h6 : Fr.ev F x6 = some (.slice a n c)) :
  OpV Try.prog N o F w (.agg (hcl m G (.slice a n c)).toArray) := by
 intro st ha
 have := run_build (P := Try.prog) w 136 #[(0, st.eval x0), (1, st.eval x1), (3, st.eval x3), (4, st.eval x4), (6, st.eval x6)] _ (by rw [ha.ev h0, ha.ev h1, ha.ev h3, ha.ev h4, ha.ev h6]; exact built_house m G a n c)
 unfold execOp
 rw [ho]
 simp [this, Result.andThen]
theorem houseNew (sb B : Nat) (H : List (Option Blk)) (w0 w : World) (hO : Own B w0 w H) (hs : SrcI H (some ⟨sb, 0, none⟩) 1 (fun _ => 10)) (hread : ∀ (w1 : World) (H1 : List (Option Blk)), Own B w0 w1 H1 → List.Sublist H H1 → w1.cell? ⟨sb, 0, none⟩ = some (iv 10)) :
  Calls Try.prog 34 #[.agg #[iv 2, iv 1, .slice (some ⟨sb, 0, none⟩) 1 1, .slice none 0 0, iv 0, iv 0]] w fun e w' => ∃ hb ab ca G, e = .returned (.tuple #[ptr hb, iv 0]) ∧ SRow (.slice (some ⟨ab, 0, none⟩) 2 2) 141 15 2 (fun _ => acc0) ca ∧ Own B w0 w' (some (lch hb 136 (hcl 1 G (.slice (some ⟨ab, 0, none⟩) 2 2))) :: ca :: H) := by
 refine calls_of_run (F := [(0, _)]) Try.func34 rfl Try.ntmps34 rfl rfl <| run_seq <| run_region <| rl_ow rfl (ow_box _ rfl rfl rfl rfl rfl hO) ?_
 rintro _ w1 ⟨b1, rfl, hO2, hs3⟩
 refine rl_v rfl rfl rfl (ov_assign rfl rfl) <| rl_v rfl rfl rfl (ov_assign rfl rfl) <| rl_nil <| run_seq <| run_seq <| run_region <| rl_v rfl rfl rfl (ov_fieldS rfl Try.underlying103 rfl (fo := 0) rfl (by kernel_rfl) rfl) ?_
 refine rl_v rfl rfl rfl (ov_load rfl Try.underlying3 rfl rfl (by exact hO2.cellL 0 rfl rfl)) ?_
 refine rl_call callable_45 rfl rfl rfl rfl rfl rfl (in_yes 2 2 64 w1 (by omega)) (fun e4 w5 hp6 => ?_)
 obtain ⟨rfl, hw1⟩ := hp6
 refine ⟨_, rfl, ?_⟩
 subst hw1
 refine rl_v rfl rfl rfl (ov_not rfl rfl) <| rl_v rfl rfl rfl (ov_move rfl rfl) ?_
 first | refine rl_noD 11 rfl (rfl) ?_ | refine rl_no 11 rfl (rfl) ?_
 refine rl_gv rfl rfl rfl rfl rfl (ov_fieldS rfl Try.underlying103 rfl (fo := 1) rfl (by kernel_rfl) rfl) ?_
 refine rl_gv rfl rfl rfl rfl rfl (ov_load rfl Try.underlying3 rfl rfl (by exact hO2.cellL 0 rfl rfl)) ?_
 refine rl_gcall callable_45 rfl rfl rfl rfl rfl rfl rfl rfl (in_yes 1 1 12 w5 (by omega)) (fun e7 w8 hp9 => ?_)
 obtain ⟨rfl, hw1⟩ := hp9
 refine ⟨_, rfl, ?_⟩
 subst hw1
 refine rl_gv rfl rfl rfl rfl rfl (ov_not rfl rfl) <| rl_v rfl rfl rfl (ov_pick_f rfl rfl rfl) <| rl_v rfl rfl rfl (ov_move rfl rfl) ?_
 first | refine rl_noD 17 rfl (rfl) ?_ | refine rl_no 17 rfl (rfl) ?_
 refine rl_gv rfl rfl rfl rfl rfl (ov_fieldS rfl Try.underlying103 rfl (fo := 4) rfl (by kernel_rfl) rfl) ?_
 refine rl_gv rfl rfl rfl rfl rfl (ov_load rfl Try.underlying2 rfl rfl (by exact hO2.cellL 0 rfl rfl)) ?_
 refine rl_gcall callable_45 rfl rfl rfl rfl rfl rfl rfl rfl (in_yes 0 0 1000 w8 (by omega)) (fun e10 w11 hp12 => ?_)
 obtain ⟨rfl, hw1⟩ := hp12
 refine ⟨_, rfl, ?_⟩
 subst hw1
 refine rl_gv rfl rfl rfl rfl rfl (ov_not rfl rfl) <| rl_v rfl rfl rfl (ov_pick_f rfl rfl rfl) <| rl_v rfl rfl rfl (ov_move rfl rfl) ?_
 first | refine rl_noD 23 rfl (rfl) ?_ | refine rl_no 23 rfl (rfl) ?_
 refine rl_gv rfl rfl rfl rfl rfl (ov_fieldS rfl Try.underlying103 rfl (fo := 5) rfl (by kernel_rfl) rfl) ?_
 refine rl_gv rfl rfl rfl rfl rfl (ov_load rfl Try.underlying2 rfl rfl (by exact hO2.cellL 0 rfl rfl)) ?_
 refine rl_gcall callable_45 rfl rfl rfl rfl rfl rfl rfl rfl (in_yes 0 0 1000000000000 w11 (by omega)) (fun e13 w14 hp15 => ?_)
 obtain ⟨rfl, hw1⟩ := hp15
 refine ⟨_, rfl, ?_⟩
 subst hw1
 refine rl_gv rfl rfl rfl rfl rfl (ov_not rfl rfl) <| rl_v rfl rfl rfl (ov_pick_f rfl rfl rfl) <| rl_nil <| run_cond_f rfl <| run_skip <| run_seq <| run_seq <| run_region <| rl_v rfl rfl rfl (ov_fieldS rfl Try.underlying103 rfl (fo := 2) rfl (by kernel_rfl) rfl) ?_
 refine rl_v rfl rfl rfl (ov_load rfl Try.underlying23 rfl rfl (by exact hO2.cellL 0 rfl rfl)) ?_
 refine rl_v rfl rfl rfl (ov_len rfl Try.underlying23 rfl) <| rl_v rfl rfl rfl (ov_fieldS rfl Try.underlying103 rfl (fo := 1) rfl (by kernel_rfl) rfl) ?_
 refine rl_v rfl rfl rfl (ov_load rfl Try.underlying3 rfl rfl (by exact hO2.cellL 0 rfl rfl)) ?_
 refine rl_v rfl rfl rfl (ov_neq rfl rfl rfl) <| rl_v rfl rfl rfl (ov_move rfl rfl) ?_
 first | refine rl_noD 35 rfl (fun h => h rfl) ?_ | refine rl_no 35 rfl (fun h => h rfl) ?_
 refine rl_gv rfl rfl rfl rfl rfl (ov_fieldS rfl Try.underlying103 rfl (fo := 3) rfl (by kernel_rfl) rfl) ?_
 refine rl_gv rfl rfl rfl rfl rfl (ov_load rfl Try.underlying22 rfl rfl (by exact hO2.cellL 0 rfl rfl)) ?_
 refine rl_gv rfl rfl rfl rfl rfl (ov_len rfl Try.underlying22 rfl) <| rl_gv rfl rfl rfl rfl rfl (ov_gtr rfl rfl rfl) <| rl_v rfl rfl rfl (ov_pick_f rfl rfl rfl) <| rl_v rfl rfl rfl (ov_move rfl rfl) ?_
 first | refine rl_noD 41 rfl (by decide) ?_ | refine rl_no 41 rfl (by decide) ?_
 refine rl_gv rfl rfl rfl rfl rfl (ov_fieldS rfl Try.underlying103 rfl (fo := 3) rfl (by kernel_rfl) rfl) ?_
 refine rl_gv rfl rfl rfl rfl rfl (ov_load rfl Try.underlying22 rfl rfl (by exact hO2.cellL 0 rfl rfl)) ?_
 refine rl_gv rfl rfl rfl rfl rfl (ov_func rfl rfl rfl) ?_
 refine rl_gcall callable_46 rfl rfl rfl rfl rfl rfl rfl rfl (movesIs _ w14) (fun e16 w17 hp18 => ?_)
 obtain ⟨rfl, hw1⟩ := hp18
 refine ⟨_, rfl, ?_⟩
 subst hw1
 refine rl_v rfl rfl rfl (ov_pick_f rfl rfl rfl) <| rl_nil <| run_cond_f rfl <| run_skip <| run_seq <| run_seq <| run_region <| rl_v rfl rfl rfl (ov_fieldS rfl Try.underlying103 rfl (fo := 2) rfl (by kernel_rfl) rfl) ?_
 refine rl_v rfl rfl rfl (ov_load rfl Try.underlying23 rfl rfl (by exact hO2.cellL 0 rfl rfl)) ?_
 refine rl_call callable_21 rfl rfl rfl rfl rfl rfl (priceIs (some ⟨sb, 0, none⟩) 1 1 B (fun _ => 10) _ w0 w17 hO2 (fun B w0 w hO => hs B w0 w hO.tail) (by omega) (fun _ _ _ => by omega)) (fun e19 w20 hp21 => ?_)
 obtain ⟨rfl, hw1⟩ := hp21
 refine ⟨_, rfl, ?_⟩
 subst hw1
 refine rl_nil <| run_cond_f rfl <| run_skip <| run_seq <| run_held (fun w' => Own B w0 w' ([some (lch b1 103 [iv 2, iv 1, .slice (some ⟨sb, 0, none⟩) 1 1, .slice none 0 0, iv 0, iv 0])])) mixed ?_
 have hO23 := hO2.drew
 generalize World.drew w20 = w22 at hO23 ⊢
 have hS24 : Own B w0 w22 ([some (lch b1 103 [iv 2, iv 1, .slice (some ⟨sb, 0, none⟩) 1 1, .slice none 0 0, iv 0, iv 0])]) := by first | exact hO23.sub (.cons_cons _ (List.nil_sublist _)) | exact hO23.sub (.cons _ (.cons_cons _ (List.nil_sublist _))) | exact hO23.sub (.cons _ (.cons _ (.cons_cons _ (List.nil_sublist _))))
 refine rh_v 0 rfl (by kernel_rfl) rfl rfl rfl hS24 (fun _ hS => ov_fieldS rfl Try.underlying103 rfl (fo := 1) rfl (by kernel_rfl) rfl) ?_
 refine rh_v 1 rfl (by kernel_rfl) rfl rfl rfl hS24 (fun _ hS => ov_load rfl Try.underlying3 rfl rfl (by exact hS.cellL 0 rfl (off := 1) rfl)) ?_
 refine rh_v 2 rfl (by kernel_rfl) rfl rfl rfl hS24 (fun _ hS => ov_fieldS rfl Try.underlying103 rfl (fo := 2) rfl (by kernel_rfl) rfl) ?_
 refine rh_v 3 rfl (by kernel_rfl) rfl rfl rfl hS24 (fun _ hS => ov_load rfl Try.underlying23 rfl rfl (by exact hS.cellL 0 rfl (off := 2) rfl)) ?_
 refine rh_v 5 rfl (by kernel_rfl) rfl rfl rfl hS24 (fun _ hS => ov_fieldS rfl Try.underlying103 rfl (fo := 4) rfl (by kernel_rfl) rfl) ?_
 refine rh_v 6 rfl (by kernel_rfl) rfl rfl rfl hS24 (fun _ hS => ov_load rfl Try.underlying2 rfl rfl (by exact hS.cellL 0 rfl (off := 4) rfl)) ?_
 refine rh_v 7 rfl (by kernel_rfl) rfl rfl rfl hS24 (fun _ hS => ov_fieldS rfl Try.underlying103 rfl (fo := 5) rfl (by kernel_rfl) rfl) ?_
 refine rh_v 8 rfl (by kernel_rfl) rfl rfl rfl hS24 (fun _ hS => ov_load rfl Try.underlying2 rfl rfl (by exact hS.cellL 0 rfl (off := 5) rfl)) ?_
 refine rh_v 9 rfl (by kernel_rfl) rfl rfl rfl hS24 (fun _ hS => ov_fieldS rfl Try.underlying103 rfl (fo := 0) rfl (by kernel_rfl) rfl) ?_
 refine rh_v 10 rfl (by kernel_rfl) rfl rfl rfl hS24 (fun _ hS => ov_load rfl Try.underlying3 rfl rfl (by exact hS.cellL 0 rfl (off := 0) rfl)) ?_
 refine rh_any2 4 11 (by kernel_rfl) ?_ ?_
 ·refine rc_op rfl rfl (ow_call2 callable_49 rfl rfl rfl rfl rfl (monthsOf_any sb 1 B (fun _ => iv 10) _ w0 w22 hO23 (fun _ => rfl) (fun w1 H1 h1 hsub => hread w1 H1 h1 (List.Sublist.trans (.cons _ (.refl _)) hsub))) (by intro e w' hp; obtain ⟨G, rfl, hOm⟩ := hp; exact ⟨_, rfl⟩)) ?_
  rintro _ w27 ⟨_, v25, he28, rfl, hp26⟩
  obtain ⟨G, rfl, hOm⟩ := hp26
  injection he28 with he28; subst he28
  have hS29 : Own B w0 w27 ([some (lch b1 103 [iv 2, iv 1, .slice (some ⟨sb, 0, none⟩) 1 1, .slice none 0 0, iv 0, iv 0])]) := by first | exact hOm.sub (.cons_cons _ (List.nil_sublist _)) | exact hOm.sub (.cons _ (.cons_cons _ (List.nil_sublist _))) | exact hOm.sub (.cons _ (.cons _ (.cons_cons _ (List.nil_sublist _))))
  refine ⟨hS29, ?_⟩
  refine rh_any1 11 (by kernel_rfl) ?_
  refine rc_op rfl rfl (ow_makeS 2 acc0 rfl rfl rfl Try.underlying132 info_141 rfl rfl hOm rfl rfl rfl rfl ⟨by omega, by omega⟩) ?_
  rintro _ w30 ⟨ab, ca, rfl, hO31, hRa, hs32⟩
  have hS33 : Own B w0 w30 ([some (lch b1 103 [iv 2, iv 1, .slice (some ⟨sb, 0, none⟩) 1 1, .slice none 0 0, iv 0, iv 0])]) := by first | exact hO31.sub (.cons_cons _ (List.nil_sublist _)) | exact hO31.sub (.cons _ (.cons_cons _ (List.nil_sublist _))) | exact hO31.sub (.cons _ (.cons _ (.cons_cons _ (List.nil_sublist _))))
  refine ⟨hS33, ?_⟩
  refine rh_v 12 rfl (by kernel_rfl) rfl rfl rfl hS33 (fun _ hS => ov_buildHouse rfl rfl rfl rfl rfl rfl) ?_
  refine rh_any1 13 (by kernel_rfl) ?_
  refine rc_op rfl rfl (ow_box _ rfl rfl rfl rfl rfl hO31) ?_
  rintro _ w34 ⟨b63, rfl, hO35, hs36⟩
  have hS37 : Own B w0 w34 ([some (lch b1 103 [iv 2, iv 1, .slice (some ⟨sb, 0, none⟩) 1 1, .slice none 0 0, iv 0, iv 0])]) := by first | exact hO35.sub (.cons_cons _ (List.nil_sublist _)) | exact hO35.sub (.cons _ (.cons_cons _ (List.nil_sublist _))) | exact hO35.sub (.cons _ (.cons _ (.cons_cons _ (List.nil_sublist _))))
  refine ⟨hS37, ?_⟩
  refine rh_v 14 rfl (by kernel_rfl) rfl rfl rfl hS37 (fun _ hS => ov_assign rfl rfl) ?_
  refine rh_done (by kernel_rfl) ?_
  refine run_seq <| run_seq <| run_region <| rl_v rfl rfl rfl (ov_fieldS rfl Try.underlying103 rfl (fo := 3) rfl (by kernel_rfl) rfl) ?_
  refine rl_v rfl rfl rfl (ov_load rfl Try.underlying22 rfl rfl (by exact hO35.cellL 2 rfl rfl)) ?_
  refine rl_v rfl rfl rfl (ov_len rfl Try.underlying22 rfl) <| rl_v rfl rfl rfl (ov_move rfl rfl) <| rl_nil <| run_block <| run_once <| run_seq <| run_region <| rl_v rfl rfl rfl (ov_lss rfl rfl rfl) <| rl_nil <| run_seq ?_
  first | refine run_cond_dec rfl (fun q => ?_) (fun q => ?_) | refine run_cond rfl (fun q => ?_) (fun q => ?_)
  ·exfalso; omega
  ·refine run_exit rfl <| run_seq <| run_region <| rl_v rfl rfl rfl (ov_move rfl rfl) <| rl_v rfl rfl rfl (ov_assign rfl rfl) <| rl_v rfl rfl rfl (ov_assign rfl rfl) <| rl_nil <| run_ret Try.func34 (res2 Try.results34 rfl rfl) ?_
   exact ⟨b63, ab, ca, G, rfl, hRa, hO35.sub (.cons_cons _ (.cons_cons _ (.cons _ (.refl _))))⟩
 ·refine rc_op rfl rfl (ow_makeS 2 acc0 rfl rfl rfl Try.underlying132 info_141 rfl rfl hO23 rfl rfl rfl rfl ⟨by omega, by omega⟩) ?_
  rintro _ w38 ⟨ab, ca, rfl, hO39, hRa, hs40⟩
  have hS41 : Own B w0 w38 ([some (lch b1 103 [iv 2, iv 1, .slice (some ⟨sb, 0, none⟩) 1 1, .slice none 0 0, iv 0, iv 0])]) := by first | exact hO39.sub (.cons_cons _ (List.nil_sublist _)) | exact hO39.sub (.cons _ (.cons_cons _ (List.nil_sublist _))) | exact hO39.sub (.cons _ (.cons _ (.cons_cons _ (List.nil_sublist _))))
  refine ⟨hS41, ?_⟩
  refine rh_any1 4 (by kernel_rfl) ?_
  refine rc_op rfl rfl (ow_call2 callable_49 rfl rfl rfl rfl rfl (monthsOf_any sb 1 B (fun _ => iv 10) _ w0 w38 hO39 (fun _ => rfl) (fun w1 H1 h1 hsub => hread w1 H1 h1 (List.Sublist.trans (.cons _ (.cons _ (.refl _))) hsub))) (by intro e w' hp; obtain ⟨G, rfl, hOm⟩ := hp; exact ⟨_, rfl⟩)) ?_
  rintro _ w44 ⟨_, v42, he45, rfl, hp43⟩
  obtain ⟨G, rfl, hOm⟩ := hp43
  injection he45 with he45; subst he45
  have hS46 : Own B w0 w44 ([some (lch b1 103 [iv 2, iv 1, .slice (some ⟨sb, 0, none⟩) 1 1, .slice none 0 0, iv 0, iv 0])]) := by first | exact hOm.sub (.cons_cons _ (List.nil_sublist _)) | exact hOm.sub (.cons _ (.cons_cons _ (List.nil_sublist _))) | exact hOm.sub (.cons _ (.cons _ (.cons_cons _ (List.nil_sublist _))))
  refine ⟨hS46, ?_⟩
  refine rh_v 12 rfl (by kernel_rfl) rfl rfl rfl hS46 (fun _ hS => ov_buildHouse rfl rfl rfl rfl rfl rfl) ?_
  refine rh_any1 13 (by kernel_rfl) ?_
  refine rc_op rfl rfl (ow_box _ rfl rfl rfl rfl rfl hOm) ?_
  rintro _ w47 ⟨b63, rfl, hO48, hs49⟩
  have hS50 : Own B w0 w47 ([some (lch b1 103 [iv 2, iv 1, .slice (some ⟨sb, 0, none⟩) 1 1, .slice none 0 0, iv 0, iv 0])]) := by first | exact hO48.sub (.cons_cons _ (List.nil_sublist _)) | exact hO48.sub (.cons _ (.cons_cons _ (List.nil_sublist _))) | exact hO48.sub (.cons _ (.cons _ (.cons_cons _ (List.nil_sublist _))))
  refine ⟨hS50, ?_⟩
  refine rh_v 14 rfl (by kernel_rfl) rfl rfl rfl hS50 (fun _ hS => ov_assign rfl rfl) ?_
  refine rh_done (by kernel_rfl) ?_
  refine run_seq <| run_seq <| run_region <| rl_v rfl rfl rfl (ov_fieldS rfl Try.underlying103 rfl (fo := 3) rfl (by kernel_rfl) rfl) ?_
  refine rl_v rfl rfl rfl (ov_load rfl Try.underlying22 rfl rfl (by exact hO48.cellL 2 rfl rfl)) ?_
  refine rl_v rfl rfl rfl (ov_len rfl Try.underlying22 rfl) <| rl_v rfl rfl rfl (ov_move rfl rfl) <| rl_nil <| run_block <| run_once <| run_seq <| run_region <| rl_v rfl rfl rfl (ov_lss rfl rfl rfl) <| rl_nil <| run_seq ?_
  first | refine run_cond_dec rfl (fun q => ?_) (fun q => ?_) | refine run_cond rfl (fun q => ?_) (fun q => ?_)
  ·exfalso; omega
  ·refine run_exit rfl <| run_seq <| run_region <| rl_v rfl rfl rfl (ov_move rfl rfl) <| rl_v rfl rfl rfl (ov_assign rfl rfl) <| rl_v rfl rfl rfl (ov_assign rfl rfl) <| rl_nil <| run_ret Try.func34 (res2 Try.results34 rfl rfl) ?_
   exact ⟨b63, ab, ca, G, rfl, hRa, hO48.sub (.cons_cons _ (.cons_cons _ (.cons _ (.refl _))))⟩
end Go.Proofs.Ytijffdhailddoaa
