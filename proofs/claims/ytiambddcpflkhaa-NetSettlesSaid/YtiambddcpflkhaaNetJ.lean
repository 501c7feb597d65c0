/- awake. -/
import Derived.Test.YtiambddcpflkhaaNetI
set_option maxRecDepth 100000
namespace Go.Proofs.Ytiambddcpflkhaa
open Go.RowKit Go.Proofs

def litT (l : List (List Int)) (r c : Int) : Int := (l.getD r.toNat []).getD c.toNat 0
def lit1 (l : List Int) (i : Int) : Int := l.getD i.toNat 0

def d3 : List (List Int) := [[0, 5, 0], [2, 0, 7], [4, 0, 0]]
def x3 : List (List Int) := [[0, 5, 0], [1, 0, 4], [4, 0, 0]]
def d2 : List (List Int) := [[0, 10], [3, 0]]

theorem litT_all (l : List (List Int)) (p : Int → Prop) (h0 : p 0) (h : ∀ row ∈ l, ∀ x ∈ row, p x) (r c : Int) : p (litT l r c) := by
  unfold litT
  rw [List.getD_eq_getElem?_getD, List.getD_eq_getElem?_getD]
  cases h1 : l[r.toNat]? with
  | none => simpa using h0
  | some row =>
    simp only [Option.getD_some]
    cases h2 : row[c.toNat]? with
    | none => simpa using h0
    | some x => exact h row (List.mem_of_getElem? h1) x (List.mem_of_getElem? h2)

theorem valid3 : Valid 3 (litT d3) := ⟨by omega, by omega, litT_all d3 (0 ≤ ·) (by decide) (by decide), litT_all d3 (· ≤ 1000000) (by decide) (by decide), fun r => by
  unfold litT
  generalize r.toNat = k
  rcases k with _ | _ | _ | k <;> rfl⟩
theorem valid2 : Valid 2 (litT d2) := ⟨by omega, by omega, litT_all d2 (0 ≤ ·) (by decide) (by decide), litT_all d2 (· ≤ 1000000) (by decide) (by decide), fun r => by
  unfold litT
  generalize r.toNat = k
  rcases k with _ | _ | k <;> rfl⟩

theorem circ3 : Circ 3 (litT d3) (litT x3) := by
  refine ⟨fun i j i0 i1 j0 j1 => litT_all x3 (0 ≤ ·) (by decide) (by decide) i j, fun i j i0 i1 j0 j1 => ?_, fun v v0 v1 => ?_⟩
  · obtain rfl | rfl | rfl : i = 0 ∨ i = 1 ∨ i = 2 := by omega
    all_goals obtain rfl | rfl | rfl : j = 0 ∨ j = 1 ∨ j = 2 := by omega
    all_goals decide
  · obtain rfl | rfl | rfl : v = 0 ∨ v = 1 ∨ v = 2 := by omega
    all_goals decide

theorem best3 {x : Int → Int → Int} {rk : Int → Int} (h : Circ 3 (litT d3) x) (hb : bnd 3 (litT d3) rk = total 3 x) : total 3 x = 14 := by
  have h1 := h.weak (fun i => if i = 1 then 0 else 1)
  have h2 := circ3.weak rk
  have e1 : bnd 3 (litT d3) (fun i => if i = 1 then 0 else 1) = 14 := by decide
  have e2 : total 3 (litT x3) = 14 := by decide
  omega

theorem sm2 (f : Int → Int) : sm f ((2 : Nat) : Int) = f 0 + f 1 := by
  show (0 + f 0) + f 1 = _
  omega

theorem pays2 {p : Int → Int} (h : Clr 2 (litT d2) (lit1 [4, 0]) (fun _ => true) p) : p 0 = 7 ∧ p 1 = 3 := by
  have o0 : ow 2 (litT d2) 0 = 10 := by decide
  have o1 : ow 2 (litT d2) 1 = 3 := by decide
  have r0 : ∀ q : Int → Int, rcv 2 (litT d2) q 0 = q 1 * 3 / 3 := fun q => by
    unfold rcv
    rw [sm2, o0, o1, show litT d2 0 0 = 0 by decide, show litT d2 1 0 = 3 by decide]
    simp
  have r1 : ∀ q : Int → Int, rcv 2 (litT d2) q 1 = q 0 * 10 / 10 := fun q => by
    unfold rcv
    rw [sm2, o0, o1, show litT d2 0 1 = 10 by decide, show litT d2 1 1 = 0 by decide]
    simp
  have c0 : lit1 [4, 0] 0 = 4 := by decide
  have c1 : lit1 [4, 0] 1 = 0 := by decide
  have ht := h.top (fun i => if i = 0 then 7 else 3) (fun i i0 i1 => by
    obtain rfl | rfl : i = 0 ∨ i = 1 := by omega
    · rw [o0]; decide
    · rw [o1]; decide) (fun i i0 i1 _ => by
    obtain rfl | rfl : i = 0 ∨ i = 1 := by omega
    · rw [o0, r0, c0]; decide
    · rw [o1, r1, c1]; decide)
  have t0 := ht 0 (by omega) (by omega)
  have t1 := ht 1 (by omega) (by omega)
  have f0 := h.fix 0 (by omega) (by omega) rfl
  have g1 := h.rng 1 (by omega) (by omega)
  rw [o0, r0, c0] at f0
  rw [o1] at g1
  simp at t0 t1
  omega

theorem awake_any (w : World) : Calls Try.prog 18 #[] w fun e w' => e = .returned (.bool true) ∧ Below w.heap.size w w' := by
  have hcash2 : ∀ i : Int, 0 ≤ i → i < ((2 : Nat) : Int) → 0 ≤ lit1 [4, 0] i ∧ lit1 [4, 0] i ≤ 1000000 := fun i i0 i1 => by
    obtain rfl | rfl : i = 0 ∨ i = 1 := by omega
    all_goals decide
  refine calls_of_run (F := []) Try.func18 rfl Try.ntmps18 rfl rfl ?_
  have hO0 := Own.init w
  refine run_seq ?_
  refine run_region ?_
  refine rl_v rfl rfl rfl (ov_assign rfl rfl) ?_
  refine rl_nil ?_
  refine run_seq ?_
  refine run_region ?_
  refine rl_ow rfl (ow_build1 [_, _, _] rfl rfl rfl rfl rfl Try.underlying23 info_2 (by decide) hO0 rfl rfl) ?_
  rintro _ w1 ⟨b7, rfl, hO2, hs3⟩
  refine rl_ow rfl (ow_build1 [_, _, _] rfl rfl rfl rfl rfl Try.underlying23 info_2 (by decide) hO2 rfl rfl) ?_
  rintro _ w4 ⟨b8, rfl, hO5, hs6⟩
  refine rl_ow rfl (ow_build1 [_, _, _] rfl rfl rfl rfl rfl Try.underlying23 info_2 (by decide) hO5 rfl rfl) ?_
  rintro _ w7 ⟨b9, rfl, hO8, hs9⟩
  refine rl_ow rfl (ow_build1 [_, _, _] rfl rfl rfl rfl rfl Try.underlying22 info_23 (by decide) hO8 rfl rfl) ?_
  rintro _ w10 ⟨b10, rfl, hO11, hs12⟩
  have hOA := hO11
  have hT3 : ITab w10.heap.size w10 (some ⟨b10, 0, none⟩) 3 (fun _ => 3) (fun r c => .int .i64 (litT d3 r c)) := by
    refine ⟨fun r => if r = 0 then some ⟨b7, 0, none⟩ else if r = 1 then some ⟨b8, 0, none⟩ else some ⟨b9, 0, none⟩, fun _ => 3, (hOA.readsI 0 rfl).congr fun i i0 i1 => ?_, fun i i0 i1 => ?_⟩
    · obtain rfl | rfl | rfl : i = 0 ∨ i = 1 ∨ i = 2 := by omega
      all_goals rfl
    · obtain rfl | rfl | rfl : i = 0 ∨ i = 1 ∨ i = 2 := by omega
      · exact (hOA.readsI 3 rfl).congr fun j j0 j1 => by
          obtain rfl | rfl | rfl : j = 0 ∨ j = 1 ∨ j = 2 := by omega
          all_goals rfl
      · exact (hOA.readsI 2 rfl).congr fun j j0 j1 => by
          obtain rfl | rfl | rfl : j = 0 ∨ j = 1 ∨ j = 2 := by omega
          all_goals rfl
      · exact (hOA.readsI 1 rfl).congr fun j j0 j1 => by
          obtain rfl | rfl | rfl : j = 0 ∨ j = 1 ∨ j = 2 := by omega
          all_goals rfl
  refine rl_v rfl rfl rfl (ov_assign rfl rfl) ?_
  refine rl_nil ?_
  refine run_seq ?_
  refine run_region ?_
  refine rl_v rfl rfl rfl (ov_move rfl rfl) ?_
  refine rl_call callable_14 rfl rfl rfl rfl rfl rfl (cancel_any _ 3 3 (litT d3) _ valid3 hT3) (fun e13 w14 hp15 => ?_)
  obtain ⟨v, x, Hx, rk, rfl, hTx, hOx, hcx, _, hbx⟩ := hp15
  refine ⟨_, rfl, ?_⟩
  have hO16 := hO11.join hOx
  have h14 := best3 hcx hbx
  obtain ⟨aox, capx, rfl⟩ := hTx.val
  have hOB := Own.init w14
  have hOC := hO16
  refine rl_v rfl rfl rfl (ov_move rfl rfl) ?_
  refine rl_v rfl rfl rfl (ov_extract rfl rfl (by rfl)) ?_
  refine rl_v rfl rfl rfl (ov_extract rfl rfl (by rfl)) ?_
  refine rl_v rfl rfl rfl (ov_extract rfl rfl (by rfl)) ?_
  refine rl_v rfl rfl rfl (ov_assign rfl rfl) ?_
  refine rl_v rfl rfl rfl (ov_assign rfl rfl) ?_
  refine rl_v rfl rfl rfl (ov_assign rfl rfl) ?_
  refine rl_nil ?_
  refine run_seq ?_
  refine run_region ?_
  refine rl_ow rfl (ow_build1 [_, _] rfl rfl rfl rfl rfl Try.underlying23 info_2 (by decide) hOB rfl rfl) ?_
  rintro _ w17 ⟨b18, rfl, hO18, hs19⟩
  refine rl_ow rfl (ow_build1 [_, _] rfl rfl rfl rfl rfl Try.underlying23 info_2 (by decide) hO18 rfl rfl) ?_
  rintro _ w20 ⟨b19, rfl, hO21, hs22⟩
  refine rl_ow rfl (ow_build1 [_, _] rfl rfl rfl rfl rfl Try.underlying22 info_23 (by decide) hO21 rfl rfl) ?_
  rintro _ w23 ⟨b20, rfl, hO24, hs25⟩
  refine rl_ow rfl (ow_build1 [_, _] rfl rfl rfl rfl rfl Try.underlying23 info_2 (by decide) hO24 rfl rfl) ?_
  rintro _ w26 ⟨b21, rfl, hO27, hs28⟩
  have hOD := hO27
  have hT2 : ITab w26.heap.size w26 (some ⟨b20, 0, none⟩) 2 (fun _ => 2) (fun r c => .int .i64 (litT d2 r c)) := by
    refine ⟨fun r => if r = 0 then some ⟨b18, 0, none⟩ else some ⟨b19, 0, none⟩, fun _ => 2, (hOD.readsI 1 rfl).congr fun i i0 i1 => ?_, fun i i0 i1 => ?_⟩
    · obtain rfl | rfl : i = 0 ∨ i = 1 := by omega
      all_goals rfl
    · obtain rfl | rfl : i = 0 ∨ i = 1 := by omega
      · exact (hOD.readsI 3 rfl).congr fun j j0 j1 => by
          obtain rfl | rfl : j = 0 ∨ j = 1 := by omega
          all_goals rfl
      · exact (hOD.readsI 2 rfl).congr fun j j0 j1 => by
          obtain rfl | rfl : j = 0 ∨ j = 1 := by omega
          all_goals rfl
  have hC2 : IAt w26.heap.size w26 (some ⟨b21, 0, none⟩) 2 (fun i => .int .i64 (lit1 [4, 0] i)) := (hOD.readsI 0 rfl).congr fun j j0 j1 => by
    obtain rfl | rfl : j = 0 ∨ j = 1 := by omega
    all_goals rfl
  refine rl_v rfl rfl rfl (ov_buildL rfl lay_37 rfl (us := [_, _]) rfl) ?_
  refine rl_call callable_32 rfl rfl rfl rfl rfl rfl (Clear_any _ _ 2 2 2 (litT d2) (lit1 [4, 0]) _ valid2 hcash2 hT2 hC2) (fun e29 w30 hp31 => ?_)
  obtain ⟨vp, p, cp, rfl, hclr, hrp, hOp⟩ := hp31
  refine ⟨_, rfl, ?_⟩
  have hO32 := hO27.join hOp
  obtain ⟨hp0, hp1⟩ := pays2 hclr
  obtain ⟨aop, capp, rfl⟩ := hrp.val
  obtain ⟨pb, hpa, hpc⟩ := hrp.openS hO32 0 rfl
  refine rl_v rfl rfl rfl (ov_move rfl rfl) ?_
  refine rl_v rfl rfl rfl (ov_extract rfl rfl (by rfl)) ?_
  refine rl_v rfl rfl rfl (ov_extract rfl rfl (by rfl)) ?_
  refine rl_v rfl rfl rfl (ov_assign rfl rfl) ?_
  refine rl_v rfl rfl rfl (ov_assign rfl rfl) ?_
  refine rl_nil ?_
  refine run_seq ?_
  refine run_region ?_
  refine rl_v rfl rfl rfl (ov_move rfl rfl) ?_
  refine rl_v rfl rfl rfl (ov_eql rfl rfl rfl) ?_
  refine rl_v rfl rfl rfl (ov_move rfl rfl) ?_
  refine rl_known 28 rfl (rfl) ?_
  refine rl_gv rfl rfl rfl rfl rfl (ov_move rfl rfl) ?_
  refine rl_gv rfl rfl rfl rfl rfl (ov_eql rfl rfl rfl) ?_
  refine rl_v rfl rfl rfl (ov_pick_t rfl rfl rfl) ?_
  refine rl_v rfl rfl rfl (ov_move rfl rfl) ?_
  refine rl_known 32 rfl (h14) ?_
  refine rl_gv rfl rfl rfl rfl rfl (ov_move rfl rfl) ?_
  refine rl_gv rfl rfl rfl rfl rfl (ov_len rfl Try.underlying22 rfl) ?_
  refine rl_gv rfl rfl rfl rfl rfl (ov_eql rfl rfl rfl) ?_
  refine rl_v rfl rfl rfl (ov_pick_t rfl rfl rfl) ?_
  refine rl_v rfl rfl rfl (ov_move rfl rfl) ?_
  refine rl_known 37 rfl (rfl) ?_
  refine rl_gv rfl rfl rfl rfl rfl (ov_move rfl rfl) ?_
  refine rl_gv rfl rfl rfl rfl rfl (ov_eql rfl rfl rfl) ?_
  refine rl_v rfl rfl rfl (ov_pick_t rfl rfl rfl) ?_
  refine rl_v rfl rfl rfl (ov_move rfl rfl) ?_
  refine rl_known 41 rfl (rfl) ?_
  refine rl_gv rfl rfl rfl rfl rfl (ov_move rfl rfl) ?_
  refine rl_gv rfl rfl rfl rfl rfl (ov_len rfl Try.underlying23 rfl) ?_
  refine rl_gv rfl rfl rfl rfl rfl (ov_eql rfl rfl rfl) ?_
  refine rl_v rfl rfl rfl (ov_pick_t rfl rfl rfl) ?_
  refine rl_v rfl rfl rfl (ov_move rfl rfl) ?_
  refine rl_known 46 rfl (rfl) ?_
  refine rl_gv rfl rfl rfl rfl rfl (ov_move rfl rfl) ?_
  refine rl_gv rfl rfl rfl rfl rfl (ov_index1 rfl Try.underlying23 (by kernel_rfl) rfl rfl ⟨by omega, by omega⟩ (by first | rfl | exact hpa (by omega))) ?_
  refine rl_gv rfl rfl rfl rfl rfl (ov_load rfl Try.underlying2 rfl rfl (by first | exact hpc _ (by omega) (by omega) | exact hO32.cellI 0 rfl _ (by omega) (by omega) | exact hO32.cellL 0 rfl rfl | exact hO32.cellI 1 rfl _ (by omega) (by omega) | exact hO32.cellL 1 rfl rfl | exact hO32.cellI 2 rfl _ (by omega) (by omega) | exact hO32.cellL 2 rfl rfl | exact hO32.cellI 3 rfl _ (by omega) (by omega) | exact hO32.cellL 3 rfl rfl | exact hO32.cellI 4 rfl _ (by omega) (by omega) | exact hO32.cellL 4 rfl rfl | exact hO32.cellI 5 rfl _ (by omega) (by omega) | exact hO32.cellL 5 rfl rfl)) ?_
  refine rl_gv rfl rfl rfl rfl rfl (ov_eql rfl rfl rfl) ?_
  refine rl_v rfl rfl rfl (ov_pick_t rfl rfl rfl) ?_
  refine rl_v rfl rfl rfl (ov_move rfl rfl) ?_
  refine rl_known 52 rfl (hp0) ?_
  refine rl_gv rfl rfl rfl rfl rfl (ov_move rfl rfl) ?_
  refine rl_gv rfl rfl rfl rfl rfl (ov_index1 rfl Try.underlying23 (by kernel_rfl) rfl rfl ⟨by omega, by omega⟩ (by first | rfl | exact hpa (by omega))) ?_
  refine rl_gv rfl rfl rfl rfl rfl (ov_load rfl Try.underlying2 rfl rfl (by first | exact hpc _ (by omega) (by omega) | exact hO32.cellI 0 rfl _ (by omega) (by omega) | exact hO32.cellL 0 rfl rfl | exact hO32.cellI 1 rfl _ (by omega) (by omega) | exact hO32.cellL 1 rfl rfl | exact hO32.cellI 2 rfl _ (by omega) (by omega) | exact hO32.cellL 2 rfl rfl | exact hO32.cellI 3 rfl _ (by omega) (by omega) | exact hO32.cellL 3 rfl rfl | exact hO32.cellI 4 rfl _ (by omega) (by omega) | exact hO32.cellL 4 rfl rfl | exact hO32.cellI 5 rfl _ (by omega) (by omega) | exact hO32.cellL 5 rfl rfl)) ?_
  refine rl_gv rfl rfl rfl rfl rfl (ov_eql rfl rfl rfl) ?_
  refine rl_v rfl rfl rfl (ov_pick_t rfl rfl rfl) ?_
  refine rl_v rfl rfl rfl (ov_assign rfl rfl) ?_
  refine rl_nil ?_
  refine run_ret Try.func18 (res1 Try.results18 rfl) ?_
  exact ⟨by rw [hp1]; rfl, (hOC.join hO32).below⟩
end Go.Proofs.Ytiambddcpflkhaa
