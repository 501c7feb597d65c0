import Derived.Test.YtlldeifbfpmbaaaGreatFbA
import Derived.Test.YtlldeifbfpmbaaaGreatHeap0
set_option maxRecDepth 100000
namespace Go.Proofs.YtlldeifbfpmbaaaGreat
open Go.RowKit Go.Proofs Go.MapKept
theorem ov_lookupS {P : Program} {N : Nat} {o : Oper} {F : Fr} {w : World} {T kt et : TypeId} {x ix : Operand} {z v : Value} {b : Nat} {i : Int} {L : List (Int × Value)} (ho : o.op = .lookup T x ix false) (hT : P.underlying T = some (.map kt et)) (hk : P.underlying kt = some (.int .i64)) (hz : (P.info? et).map (·.zero) = some (some z))
  (hx : Fr.ev F x = some (.map (some b))) (hi : Fr.ev F ix = some (.int .i64 i)) (hm : w.heap[b]? = some (.map (ents L 0).toArray L.length)) (hl : lkp L i = some v) : OpV P N o F w v := by
 have e : (lkp L i).getD z = v := by rw [hl]; rfl
 rw [← e]
 exact ov_lookup ho hT hk hz hx hi hm
def MpAt (B : Nat) (w : World) (mb : Nat) (L : List (Int × Value)) : Prop := mb < B ∧ w.heap[mb]? = some (.map (ents L 0).toArray L.length)
theorem MpAt.below {B : Nat} {w w' : World} {mb : Nat} {L : List (Int × Value)} (h : MpAt B w mb L) (hb : Below B w w') : MpAt B w' mb L := ⟨h.1, by rw [hb.block _ h.1]; exact h.2⟩
structure CH (L : List (Int × Value)) (n : Int) (P A : Int → Int) : Prop where
 rk : ∀ k : Int, 0 ≤ k → k < n → lkp L (P k) = some (iv (A k - 1)) ∧ 1 ≤ A k ∧ A k ≤ 1000
 inj : ∀ k l : Int, 0 ≤ k → k < n → 0 ≤ l → l < n → A k = A l → P k = P l
theorem CH.sw {L : List (Int × Value)} {n : Int} {P A : Int → Int} (h : CH L n P A) {i j : Int} (i0 : 0 ≤ i) (i1 : i < n) (j0 : 0 ≤ j) (j1 : j < n) : CH L n (sw P i j) (sw A i j) :=
 ⟨fun k k0 k1 => by have := tr_rng i0 i1 j0 j1 k0 k1; exact h.rk _ this.1 this.2, fun k l k0 k1 l0 l1 => by
  have a := tr_rng i0 i1 j0 j1 k0 k1
  have b := tr_rng i0 i1 j0 j1 l0 l1
  exact h.inj _ _ a.1 a.2 b.1 b.2⟩
def crG (P : Int → Int) : Int → Value := fun k => iv (P k)
theorem len_cr (cb mb n cap : Nat) (ao : Option Addr) (w : World) (hL : LAt w.heap.size w cb [.map (some mb), .slice ao n cap]) :
  Calls Tryz.prog 80 #[ptr cb] w fun e w' => e = .returned (.int .i64 n) ∧ Below w.heap.size w w' := by
 have hl := hL.open
 refine calls_of_run (F := [(0, _)]) Tryz.func80 rfl Tryz.ntmps80 rfl rfl ?_
 have hO0 := Own.init w
 refine run_seq <| run_region <| rl_v rfl rfl rfl (ov_assign rfl rfl) <| rl_nil <| run_seq <| run_region <| rl_v rfl rfl rfl (ov_move rfl rfl) <| rl_v rfl rfl rfl (ov_nil rfl rfl) <| rl_v rfl rfl rfl (ov_fieldS rfl Tryz.underlying139 rfl (fo := 1) rfl (by kernel_rfl) rfl) ?_
 refine rl_v rfl rfl rfl (ov_load rfl Tryz.underlying23 rfl rfl (by exact hl _ hO0.below rfl)) ?_
 refine rl_v rfl rfl rfl (ov_len rfl Tryz.underlying23 rfl) <| rl_v rfl rfl rfl (ov_assign rfl rfl) <| rl_nil <| run_ret Tryz.func80 (res1 Tryz.results80 rfl) ?_
 exact ⟨rfl, hO0.below⟩
theorem less_cr (cb mb n cap : Nat) (ao : Option Addr) (L : List (Int × Value)) (P A : Int → Int) (i j : Int) (w : World) (i0 : 0 ≤ i) (i1 : i < n) (j0 : 0 ≤ j) (j1 : j < n) (hn : n ≤ 1000) (hc : CH L n P A) (hL : LAt w.heap.size w cb [.map (some mb), .slice ao n cap]) (hm : MpAt w.heap.size w mb L) (h : IAt w.heap.size w ao n (crG P)) :
  Calls Tryz.prog 190 #[ptr cb, iv i, iv j] w fun e w' => (∃ b, e = .returned (.bool b) ∧ (b = true ↔ bf P A i j)) ∧ Below w.heap.size w w' := by
 obtain ⟨gb, go, hga, hrow⟩ := h.open
 have hl := hL.open
 have hmm : ∀ w', Below w.heap.size w w' → w'.heap[mb]? = some (.map (ents L 0).toArray L.length) := fun w' hb => (hm.below hb).2
 have hi := hc.rk i i0 i1
 have hj := hc.rk j j0 j1
 have hij := hc.inj i j i0 i1 j0 j1
 refine calls_of_run (F := [(0, _), (1, _), (2, _)]) Tryz.func190 rfl Tryz.ntmps190 rfl rfl ?_
 have hO0 := Own.init w
 refine run_seq <| run_region <| rl_v rfl rfl rfl (ov_assign rfl rfl) <| rl_nil <| run_seq <| run_quiet mixed (by kernel_rfl) ?_
 refine rq_v rfl rfl rfl (fun _ => ov_move rfl rfl) ?_
 refine rq_v rfl rfl rfl (fun _ => ov_nil rfl rfl) ?_
 refine rq_v rfl rfl rfl (fun _ => ov_fieldS rfl Tryz.underlying139 rfl (fo := 0) rfl (by kernel_rfl) rfl) ?_
 refine rq_v rfl rfl rfl (fun _ => ov_load rfl Tryz.underlying97 rfl rfl (by show World.cell? w _ = _; first | exact hl _ hO0.below rfl | exact hrow _ hO0.below _ (by omega) (by omega) | exact hO0.cellI 0 rfl _ (by omega) (by omega) | exact hO0.cellL 0 rfl rfl | exact hO0.cellI 1 rfl _ (by omega) (by omega) | exact hO0.cellL 1 rfl rfl | exact hO0.cellI 2 rfl _ (by omega) (by omega) | exact hO0.cellL 2 rfl rfl | exact hO0.cellI 3 rfl _ (by omega) (by omega) | exact hO0.cellL 3 rfl rfl | exact hO0.cellI 4 rfl _ (by omega) (by omega) | exact hO0.cellL 4 rfl rfl | exact hO0.cellI 5 rfl _ (by omega) (by omega) | exact hO0.cellL 5 rfl rfl)) ?_
 refine rq_v rfl rfl rfl (fun _ => ov_move rfl rfl) ?_
 refine rq_v rfl rfl rfl (fun _ => ov_nil rfl rfl) ?_
 refine rq_v rfl rfl rfl (fun _ => ov_fieldS rfl Tryz.underlying139 rfl (fo := 1) rfl (by kernel_rfl) rfl) ?_
 refine rq_v rfl rfl rfl (fun _ => ov_load rfl Tryz.underlying23 rfl rfl (by show World.cell? w _ = _; first | exact hl _ hO0.below rfl | exact hrow _ hO0.below _ (by omega) (by omega) | exact hO0.cellI 0 rfl _ (by omega) (by omega) | exact hO0.cellL 0 rfl rfl | exact hO0.cellI 1 rfl _ (by omega) (by omega) | exact hO0.cellL 1 rfl rfl | exact hO0.cellI 2 rfl _ (by omega) (by omega) | exact hO0.cellL 2 rfl rfl | exact hO0.cellI 3 rfl _ (by omega) (by omega) | exact hO0.cellL 3 rfl rfl | exact hO0.cellI 4 rfl _ (by omega) (by omega) | exact hO0.cellL 4 rfl rfl | exact hO0.cellI 5 rfl _ (by omega) (by omega) | exact hO0.cellL 5 rfl rfl)) ?_
 refine rq_v rfl rfl rfl (fun _ => ov_move rfl rfl) ?_
 refine rq_v rfl rfl rfl (fun _ => ov_index1 rfl Tryz.underlying23 (by kernel_rfl) rfl rfl ⟨by omega, by omega⟩ (by exact hga (by omega))) ?_
 refine rq_v rfl rfl rfl (fun _ => ov_load rfl Tryz.underlying3 rfl rfl (by show World.cell? w _ = _; first | exact hl _ hO0.below rfl | exact hrow _ hO0.below _ (by omega) (by omega) | exact hO0.cellI 0 rfl _ (by omega) (by omega) | exact hO0.cellL 0 rfl rfl | exact hO0.cellI 1 rfl _ (by omega) (by omega) | exact hO0.cellL 1 rfl rfl | exact hO0.cellI 2 rfl _ (by omega) (by omega) | exact hO0.cellL 2 rfl rfl | exact hO0.cellI 3 rfl _ (by omega) (by omega) | exact hO0.cellL 3 rfl rfl | exact hO0.cellI 4 rfl _ (by omega) (by omega) | exact hO0.cellL 4 rfl rfl | exact hO0.cellI 5 rfl _ (by omega) (by omega) | exact hO0.cellL 5 rfl rfl)) ?_
 refine rq_v rfl rfl rfl (fun _ => ov_lookupS rfl Tryz.underlying97 Tryz.underlying3 rfl rfl rfl (show w.heap[mb]? = _ from hmm _ hO0.below) hi.1) ?_
 refine rq_v rfl rfl rfl (fun _ => ov_move rfl rfl) ?_
 refine rq_v rfl rfl rfl (fun _ => ov_nil rfl rfl) ?_
 refine rq_v rfl rfl rfl (fun _ => ov_fieldS rfl Tryz.underlying139 rfl (fo := 0) rfl (by kernel_rfl) rfl) ?_
 refine rq_v rfl rfl rfl (fun _ => ov_load rfl Tryz.underlying97 rfl rfl (by show World.cell? w _ = _; first | exact hl _ hO0.below rfl | exact hrow _ hO0.below _ (by omega) (by omega) | exact hO0.cellI 0 rfl _ (by omega) (by omega) | exact hO0.cellL 0 rfl rfl | exact hO0.cellI 1 rfl _ (by omega) (by omega) | exact hO0.cellL 1 rfl rfl | exact hO0.cellI 2 rfl _ (by omega) (by omega) | exact hO0.cellL 2 rfl rfl | exact hO0.cellI 3 rfl _ (by omega) (by omega) | exact hO0.cellL 3 rfl rfl | exact hO0.cellI 4 rfl _ (by omega) (by omega) | exact hO0.cellL 4 rfl rfl | exact hO0.cellI 5 rfl _ (by omega) (by omega) | exact hO0.cellL 5 rfl rfl)) ?_
 refine rq_v rfl rfl rfl (fun _ => ov_move rfl rfl) ?_
 refine rq_v rfl rfl rfl (fun _ => ov_nil rfl rfl) ?_
 refine rq_v rfl rfl rfl (fun _ => ov_fieldS rfl Tryz.underlying139 rfl (fo := 1) rfl (by kernel_rfl) rfl) ?_
 refine rq_v rfl rfl rfl (fun _ => ov_load rfl Tryz.underlying23 rfl rfl (by show World.cell? w _ = _; first | exact hl _ hO0.below rfl | exact hrow _ hO0.below _ (by omega) (by omega) | exact hO0.cellI 0 rfl _ (by omega) (by omega) | exact hO0.cellL 0 rfl rfl | exact hO0.cellI 1 rfl _ (by omega) (by omega) | exact hO0.cellL 1 rfl rfl | exact hO0.cellI 2 rfl _ (by omega) (by omega) | exact hO0.cellL 2 rfl rfl | exact hO0.cellI 3 rfl _ (by omega) (by omega) | exact hO0.cellL 3 rfl rfl | exact hO0.cellI 4 rfl _ (by omega) (by omega) | exact hO0.cellL 4 rfl rfl | exact hO0.cellI 5 rfl _ (by omega) (by omega) | exact hO0.cellL 5 rfl rfl)) ?_
 refine rq_v rfl rfl rfl (fun _ => ov_move rfl rfl) ?_
 refine rq_v rfl rfl rfl (fun _ => ov_index1 rfl Tryz.underlying23 (by kernel_rfl) rfl rfl ⟨by omega, by omega⟩ (by exact hga (by omega))) ?_
 refine rq_v rfl rfl rfl (fun _ => ov_load rfl Tryz.underlying3 rfl rfl (by show World.cell? w _ = _; first | exact hl _ hO0.below rfl | exact hrow _ hO0.below _ (by omega) (by omega) | exact hO0.cellI 0 rfl _ (by omega) (by omega) | exact hO0.cellL 0 rfl rfl | exact hO0.cellI 1 rfl _ (by omega) (by omega) | exact hO0.cellL 1 rfl rfl | exact hO0.cellI 2 rfl _ (by omega) (by omega) | exact hO0.cellL 2 rfl rfl | exact hO0.cellI 3 rfl _ (by omega) (by omega) | exact hO0.cellL 3 rfl rfl | exact hO0.cellI 4 rfl _ (by omega) (by omega) | exact hO0.cellL 4 rfl rfl | exact hO0.cellI 5 rfl _ (by omega) (by omega) | exact hO0.cellL 5 rfl rfl)) ?_
 refine rq_v rfl rfl rfl (fun _ => ov_lookupS rfl Tryz.underlying97 Tryz.underlying3 rfl rfl rfl (show w.heap[mb]? = _ from hmm _ hO0.below) hj.1) ?_
 refine rq_v rfl rfl rfl (fun _ => ov_gtr rfl rfl rfl) ?_
 refine rq_v rfl rfl rfl (fun _ => ov_assign rfl rfl) ?_
 refine rq_nil (fun n1 => ?_)
 have hO3 := hO0.drewN n1
 generalize World.drewN w n1 = w2 at hO3 ⊢
 refine run_ret Tryz.func190 (res1 Tryz.results190 rfl) ?_
 exact ⟨⟨_, rfl, by rw [decide_eq_true_iff]; unfold bf; constructor; (intro h; exact .inl (by omega)); (rintro (h | ⟨h1, h2⟩); (omega); (exact absurd (hij h1) (by omega)))⟩, hO3.below⟩
theorem swap_cr (cb mb n cap B : Nat) (ao : Option Addr) (P : Int → Int) (i j : Int) (c : Option Blk) (w0 w : World) (H : List (Option Blk)) (i0 : 0 ≤ i) (i1 : i < n) (j0 : 0 ≤ j) (j1 : j < n) (hO : Own B w0 w (c :: some (lch cb 139 [.map (some mb), .slice ao n cap]) :: H)) (hr : IRow (.slice ao n cap) 3 n (crG P) c) :
  Calls Tryz.prog 193 #[ptr cb, iv i, iv j] w fun e w' => e = .returned (.tuple #[]) ∧ ∃ c', Own B w0 w' (c' :: some (lch cb 139 [.map (some mb), .slice ao n cap]) :: H) ∧ IRow (.slice ao n cap) 3 n (crG (sw P i j)) c' := by
 obtain ⟨gb, G, rfl, hnc, hmx, rfl, hG⟩ := hr.asV (by omega)
 have hGi : G i = iv (P i) := hG i i0 i1
 have hGj : G j = iv (P j) := hG j j0 j1
 have hsw : ∀ k : Int, 0 ≤ k → k < n → upd (upd G i (iv (P j))) j (iv (P i)) k = crG (sw P i j) k := fun k k0 k1 => by
  unfold upd crG sw tr
  split
  ·rfl
  ·split
   ·rfl
   ·exact hG k k0 k1
 refine calls_of_run (F := [(0, _), (1, _), (2, _)]) Tryz.func193 rfl Tryz.ntmps193 rfl rfl <| run_held (fun w' => Own B w0 w' (some (lch cb 139 [.map (some mb), .slice (some ⟨gb, 0, none⟩) n cap]) :: H)) mixed ?_
 have hO2 := hO.drew
 generalize World.drew w = w1 at hO2 ⊢
 have hS3 : Own B w0 w1 (some (lch cb 139 [.map (some mb), .slice (some ⟨gb, 0, none⟩) n cap]) :: H) := by exact hO2.tail
 refine rh_v 0 rfl (by kernel_rfl) rfl rfl rfl hS3 (fun _ hS => ov_move rfl rfl) ?_
 refine rh_v 1 rfl (by kernel_rfl) rfl rfl rfl hS3 (fun _ hS => ov_nil rfl rfl) ?_
 refine rh_v 2 rfl (by kernel_rfl) rfl rfl rfl hS3 (fun _ hS => ov_fieldS rfl Tryz.underlying139 rfl (fo := 1) rfl (by kernel_rfl) rfl) ?_
 refine rh_v 3 rfl (by kernel_rfl) rfl rfl rfl hS3 (fun _ hS => ov_load rfl Tryz.underlying23 rfl rfl (by exact hS.cellL 0 rfl (off := 1) rfl)) ?_
 refine rh_v 4 rfl (by kernel_rfl) rfl rfl rfl hS3 (fun _ hS => ov_move rfl rfl) ?_
 refine rh_v 5 rfl (by kernel_rfl) rfl rfl rfl hS3 (fun _ hS => ov_move rfl rfl) ?_
 refine rh_v 6 rfl (by kernel_rfl) rfl rfl rfl hS3 (fun _ hS => ov_nil rfl rfl) ?_
 refine rh_v 7 rfl (by kernel_rfl) rfl rfl rfl hS3 (fun _ hS => ov_fieldS rfl Tryz.underlying139 rfl (fo := 1) rfl (by kernel_rfl) rfl) ?_
 refine rh_v 8 rfl (by kernel_rfl) rfl rfl rfl hS3 (fun _ hS => ov_load rfl Tryz.underlying23 rfl rfl (by exact hS.cellL 0 rfl (off := 1) rfl)) ?_
 refine rh_v 9 rfl (by kernel_rfl) rfl rfl rfl hS3 (fun _ hS => ov_move rfl rfl) ?_
 refine rh_v 10 rfl (by kernel_rfl) rfl rfl rfl hS3 (fun _ hS => ov_move rfl rfl) ?_
 refine rh_v 11 rfl (by kernel_rfl) rfl rfl rfl hS3 (fun _ hS => ov_nil rfl rfl) ?_
 refine rh_v 12 rfl (by kernel_rfl) rfl rfl rfl hS3 (fun _ hS => ov_fieldS rfl Tryz.underlying139 rfl (fo := 1) rfl (by kernel_rfl) rfl) ?_
 refine rh_v 13 rfl (by kernel_rfl) rfl rfl rfl hS3 (fun _ hS => ov_load rfl Tryz.underlying23 rfl rfl (by exact hS.cellL 0 rfl (off := 1) rfl)) ?_
 refine rh_v 14 rfl (by kernel_rfl) rfl rfl rfl hS3 (fun _ hS => ov_move rfl rfl) ?_
 refine rh_v 15 rfl (by kernel_rfl) rfl rfl rfl hS3 (fun _ hS => ov_index1 rfl Tryz.underlying23 (by kernel_rfl) rfl rfl ⟨by omega, by omega⟩ rfl) ?_
 refine rh_v 17 rfl (by kernel_rfl) rfl rfl rfl hS3 (fun _ hS => ov_move rfl rfl) ?_
 refine rh_v 18 rfl (by kernel_rfl) rfl rfl rfl hS3 (fun _ hS => ov_nil rfl rfl) ?_
 refine rh_v 19 rfl (by kernel_rfl) rfl rfl rfl hS3 (fun _ hS => ov_fieldS rfl Tryz.underlying139 rfl (fo := 1) rfl (by kernel_rfl) rfl) ?_
 refine rh_v 20 rfl (by kernel_rfl) rfl rfl rfl hS3 (fun _ hS => ov_load rfl Tryz.underlying23 rfl rfl (by exact hS.cellL 0 rfl (off := 1) rfl)) ?_
 refine rh_v 21 rfl (by kernel_rfl) rfl rfl rfl hS3 (fun _ hS => ov_move rfl rfl) ?_
 refine rh_v 22 rfl (by kernel_rfl) rfl rfl rfl hS3 (fun _ hS => ov_index1 rfl Tryz.underlying23 (by kernel_rfl) rfl rfl ⟨by omega, by omega⟩ rfl) ?_
 refine rh_any2 16 23 (by kernel_rfl) ?_ ?_
 ·refine rc_op rfl rfl (ow_v rfl rfl (ov_load rfl Tryz.underlying3 rfl rfl (by exact (hO2.cellI 0 rfl j j0 (by omega)).trans (congrArg some hGj)))) ?_
  rintro _ _ ⟨rfl, hw4⟩
  replace hw4 := hw4.symm; subst hw4
  refine ⟨hS3, ?_⟩
  refine rh_any1 23 (by kernel_rfl) ?_
  refine rc_op rfl rfl (ow_v rfl rfl (ov_load rfl Tryz.underlying3 rfl rfl (by exact (hO2.cellI 0 rfl i i0 (by omega)).trans (congrArg some hGi)))) ?_
  rintro _ _ ⟨rfl, hw5⟩
  replace hw5 := hw5.symm; subst hw5
  refine ⟨hS3, ?_⟩
  refine rh_v 24 rfl (by kernel_rfl) rfl rfl rfl hS3 (fun _ hS => ov_index1 rfl Tryz.underlying23 (by kernel_rfl) rfl rfl ⟨by omega, by omega⟩ rfl) ?_
  refine rh_any1 25 (by kernel_rfl) ?_
  refine rc_op rfl rfl (ow_store rfl rfl (by kernel_rfl) hO2 0 rfl rfl ⟨by omega, by omega⟩ rfl rfl) ?_
  rintro _ w6 ⟨rfl, hO7, hs8⟩
  have hS9 : Own B w0 w6 (some (lch cb 139 [.map (some mb), .slice (some ⟨gb, 0, none⟩) n cap]) :: H) := by exact hO7.tail
  refine ⟨hS9, ?_⟩
  refine rh_v 26 rfl (by kernel_rfl) rfl rfl rfl hS9 (fun _ hS => ov_index1 rfl Tryz.underlying23 (by kernel_rfl) rfl rfl ⟨by omega, by omega⟩ rfl) ?_
  refine rh_any1 27 (by kernel_rfl) ?_
  refine rc_op rfl rfl (ow_store rfl rfl (by kernel_rfl) hO7 0 rfl rfl ⟨by omega, by omega⟩ rfl rfl) ?_
  rintro _ w10 ⟨rfl, hO11, hs12⟩
  have hS13 : Own B w0 w10 (some (lch cb 139 [.map (some mb), .slice (some ⟨gb, 0, none⟩) n cap]) :: H) := by exact hO11.tail
  refine ⟨hS13, ?_⟩
  refine rh_done (by kernel_rfl) ?_
  refine run_end Tryz.func193 (res0 Tryz.results193) ?_
  exact ⟨rfl, _, hO11, IRow.ofV hnc hmx hsw⟩
 ·refine rc_op rfl rfl (ow_v rfl rfl (ov_load rfl Tryz.underlying3 rfl rfl (by exact (hO2.cellI 0 rfl i i0 (by omega)).trans (congrArg some hGi)))) ?_
  rintro _ _ ⟨rfl, hw14⟩
  replace hw14 := hw14.symm; subst hw14
  refine ⟨hS3, ?_⟩
  refine rh_any1 16 (by kernel_rfl) ?_
  refine rc_op rfl rfl (ow_v rfl rfl (ov_load rfl Tryz.underlying3 rfl rfl (by exact (hO2.cellI 0 rfl j j0 (by omega)).trans (congrArg some hGj)))) ?_
  rintro _ _ ⟨rfl, hw15⟩
  replace hw15 := hw15.symm; subst hw15
  refine ⟨hS3, ?_⟩
  refine rh_v 24 rfl (by kernel_rfl) rfl rfl rfl hS3 (fun _ hS => ov_index1 rfl Tryz.underlying23 (by kernel_rfl) rfl rfl ⟨by omega, by omega⟩ rfl) ?_
  refine rh_any1 25 (by kernel_rfl) ?_
  refine rc_op rfl rfl (ow_store rfl rfl (by kernel_rfl) hO2 0 rfl rfl ⟨by omega, by omega⟩ rfl rfl) ?_
  rintro _ w16 ⟨rfl, hO17, hs18⟩
  have hS19 : Own B w0 w16 (some (lch cb 139 [.map (some mb), .slice (some ⟨gb, 0, none⟩) n cap]) :: H) := by exact hO17.tail
  refine ⟨hS19, ?_⟩
  refine rh_v 26 rfl (by kernel_rfl) rfl rfl rfl hS19 (fun _ hS => ov_index1 rfl Tryz.underlying23 (by kernel_rfl) rfl rfl ⟨by omega, by omega⟩ rfl) ?_
  refine rh_any1 27 (by kernel_rfl) ?_
  refine rc_op rfl rfl (ow_store rfl rfl (by kernel_rfl) hO17 0 rfl rfl ⟨by omega, by omega⟩ rfl rfl) ?_
  rintro _ w20 ⟨rfl, hO21, hs22⟩
  have hS23 : Own B w0 w20 (some (lch cb 139 [.map (some mb), .slice (some ⟨gb, 0, none⟩) n cap]) :: H) := by exact hO21.tail
  refine ⟨hS23, ?_⟩
  refine rh_done (by kernel_rfl) ?_
  refine run_end Tryz.func193 (res0 Tryz.results193) ?_
  exact ⟨rfl, _, hO21, IRow.ofV hnc hmx hsw⟩
theorem push_cr (cb mb B n : Nat) (sv : Value) (P : Int → Int) (p : Int) (c : Option Blk) (w0 w : World) (H : List (Option Blk)) (hn : n ≤ 100) (hO : Own B w0 w (c :: some (lch cb 139 [.map (some mb), sv]) :: H)) (hr : IRow sv 3 n (crG P) c) :
  Calls Tryz.prog 192 #[ptr cb, .iface 3 (iv p)] w fun e w' => e = .returned (.tuple #[]) ∧ ∃ sv' c', Own B w0 w' (c' :: some (lch cb 139 [.map (some mb), sv']) :: H) ∧ IRow sv' 3 (n + 1) (crG (upd P n p)) c' := by
 have hup : ∀ k : Int, 0 ≤ k → k < ((n + 1 : Nat) : Int) → upd (crG P) n (iv p) k = crG (upd P n p) k := fun k _ _ => by unfold upd crG; by_cases e : k = n <;> simp [e]
 refine calls_of_run (F := [(0, _), (1, _)]) Tryz.func192 rfl Tryz.ntmps192 rfl rfl <| run_held (fun w' => Own B w0 w' (H)) mixed ?_
 have hO2 := hO.drew
 generalize World.drew w = w1 at hO2 ⊢
 have hS3 : Own B w0 w1 (H) := by first | exact hO2.tail.tail | exact hO2.tail.tail.tail
 refine rh_v 0 rfl (by kernel_rfl) rfl rfl rfl hS3 (fun _ hS => ov_move rfl rfl) ?_
 refine rh_v 1 rfl (by kernel_rfl) rfl rfl rfl hS3 (fun _ hS => ov_move rfl rfl) ?_
 refine rh_v 2 rfl (by kernel_rfl) rfl rfl rfl hS3 (fun _ hS => ov_nil rfl rfl) ?_
 refine rh_v 3 rfl (by kernel_rfl) rfl rfl rfl hS3 (fun _ hS => ov_fieldS rfl Tryz.underlying139 rfl (fo := 1) rfl (by kernel_rfl) rfl) ?_
 refine rh_v 5 rfl (by kernel_rfl) rfl rfl rfl hS3 (fun _ hS => ov_move rfl rfl) ?_
 refine rh_v 6 rfl (by kernel_rfl) rfl rfl rfl hS3 (fun _ hS => ov_assert rfl Tryz.underlying3 rfl rfl) ?_
 refine rh_any2 4 7 (by kernel_rfl) ?_ ?_
 ·refine rc_op rfl rfl (ow_v rfl rfl (ov_load rfl Tryz.underlying23 rfl rfl (by exact hO2.cellL 1 rfl (off := 1) rfl))) ?_
  rintro _ _ ⟨rfl, hw4⟩
  replace hw4 := hw4.symm; subst hw4
  refine ⟨hS3, ?_⟩
  refine rh_any1 7 (by kernel_rfl) ?_
  refine rc_op rfl rfl (ow_one rfl rfl rfl Tryz.underlying23 info_3 rfl hO2 rfl rfl) ?_
  rintro _ w5 ⟨b1, rfl, hO6, hs7⟩
  have hS8 : Own B w0 w5 (H) := by first | exact hO6.tail.tail | exact hO6.tail.tail.tail
  refine ⟨hS8, ?_⟩
  refine rh_any1 8 (by kernel_rfl) ?_
  refine rc_op rfl rfl (ow_app1 rfl rfl rfl Tryz.underlying23 info_3 rfl hO6 0 hr rfl rfl rfl rfl ⟨by omega, by omega⟩) ?_
  rintro _ w9 ⟨v5, c5, rfl, hO10, hr5, hs11⟩
  have hS12 : Own B w0 w9 (H) := by first | exact hO10.tail.tail | exact hO10.tail.tail.tail
  refine ⟨hS12, ?_⟩
  obtain ⟨a5, p5, rfl⟩ := Row.val hr5
  refine rh_v 9 rfl (by kernel_rfl) rfl rfl rfl hS12 (fun _ hS => ov_nil rfl rfl) ?_
  refine rh_v 10 rfl (by kernel_rfl) rfl rfl rfl hS12 (fun _ hS => ov_fieldS rfl Tryz.underlying139 rfl (fo := 1) rfl (by kernel_rfl) rfl) ?_
  refine rh_any1 11 (by kernel_rfl) ?_
  refine rc_op rfl rfl (ow_storeL rfl rfl (by kernel_rfl) hO10 1 rfl rfl rfl rfl rfl) ?_
  rintro _ w13 ⟨rfl, hO14, hs15⟩
  have hS16 : Own B w0 w13 (H) := by first | exact hO14.tail.tail | exact hO14.tail.tail.tail
  refine ⟨hS16, ?_⟩
  refine rh_done (by kernel_rfl) ?_
  refine run_end Tryz.func192 (res0 Tryz.results192) ?_
  exact ⟨rfl, .slice a5 (n + 1) p5, c5, hO14, hr5.congr hup⟩
 ·refine rc_op rfl rfl (ow_one rfl rfl rfl Tryz.underlying23 info_3 rfl hO2 rfl rfl) ?_
  rintro _ w17 ⟨b1, rfl, hO18, hs19⟩
  have hS20 : Own B w0 w17 (H) := by first | exact hO18.tail.tail | exact hO18.tail.tail.tail
  refine ⟨hS20, ?_⟩
  refine rh_any1 4 (by kernel_rfl) ?_
  refine rc_op rfl rfl (ow_v rfl rfl (ov_load rfl Tryz.underlying23 rfl rfl (by exact hO18.cellL 2 rfl (off := 1) rfl))) ?_
  rintro _ _ ⟨rfl, hw21⟩
  replace hw21 := hw21.symm; subst hw21
  refine ⟨hS20, ?_⟩
  refine rh_any1 8 (by kernel_rfl) ?_
  refine rc_op rfl rfl (ow_app1 rfl rfl rfl Tryz.underlying23 info_3 rfl hO18 0 hr rfl rfl rfl rfl ⟨by omega, by omega⟩) ?_
  rintro _ w22 ⟨v5, c5, rfl, hO23, hr5, hs24⟩
  have hS25 : Own B w0 w22 (H) := by first | exact hO23.tail.tail | exact hO23.tail.tail.tail
  refine ⟨hS25, ?_⟩
  obtain ⟨a5, p5, rfl⟩ := Row.val hr5
  refine rh_v 9 rfl (by kernel_rfl) rfl rfl rfl hS25 (fun _ hS => ov_nil rfl rfl) ?_
  refine rh_v 10 rfl (by kernel_rfl) rfl rfl rfl hS25 (fun _ hS => ov_fieldS rfl Tryz.underlying139 rfl (fo := 1) rfl (by kernel_rfl) rfl) ?_
  refine rh_any1 11 (by kernel_rfl) ?_
  refine rc_op rfl rfl (ow_storeL rfl rfl (by kernel_rfl) hO23 1 rfl rfl rfl rfl rfl) ?_
  rintro _ w26 ⟨rfl, hO27, hs28⟩
  have hS29 : Own B w0 w26 (H) := by first | exact hO27.tail.tail | exact hO27.tail.tail.tail
  refine ⟨hS29, ?_⟩
  refine rh_done (by kernel_rfl) ?_
  refine run_end Tryz.func192 (res0 Tryz.results192) ?_
  exact ⟨rfl, .slice a5 (n + 1) p5, c5, hO27, hr5.congr hup⟩
theorem pop_cr (cb mb B n cap : Nat) (ao : Option Addr) (P : Int → Int) (c : Option Blk) (w0 w : World) (H : List (Option Blk)) (hn : 1 ≤ n) (hn2 : n ≤ 100) (hO : Own B w0 w (c :: some (lch cb 139 [.map (some mb), .slice ao n cap]) :: H)) (hr : IRow (.slice ao n cap) 3 n (crG P) c) :
  Calls Tryz.prog 191 #[ptr cb] w fun e w' => e = .returned (.iface 3 (iv (P (n - 1)))) ∧ Own B w0 w' (c :: some (lch cb 139 [.map (some mb), .slice ao (n - 1) cap]) :: H) := by
 obtain ⟨gb, G, rfl, hnc, hmx, rfl, hG⟩ := hr.asV hn
 refine calls_of_run (F := [(0, _)]) Tryz.func191 rfl Tryz.ntmps191 rfl rfl <| run_seq <| run_region <| rl_v rfl rfl rfl (ov_assign rfl rfl) <| rl_nil <| run_seq <| run_quiet mixed (by kernel_rfl) ?_
 refine rq_v rfl rfl rfl (fun _ => ov_move rfl rfl) ?_
 refine rq_v rfl rfl rfl (fun _ => ov_nil rfl rfl) ?_
 refine rq_v rfl rfl rfl (fun _ => ov_fieldS rfl Tryz.underlying139 rfl (fo := 1) rfl (by kernel_rfl) rfl) ?_
 refine rq_v rfl rfl rfl (fun _ => ov_load rfl Tryz.underlying23 rfl rfl (by show World.cell? w _ = _; first | exact hO.cellL 1 rfl (off := 1) rfl)) ?_
 refine rq_v rfl rfl rfl (fun _ => ov_move rfl rfl) ?_
 refine rq_v rfl rfl rfl (fun _ => ov_nil rfl rfl) ?_
 refine rq_v rfl rfl rfl (fun _ => ov_fieldS rfl Tryz.underlying139 rfl (fo := 1) rfl (by kernel_rfl) rfl) ?_
 refine rq_v rfl rfl rfl (fun _ => ov_load rfl Tryz.underlying23 rfl rfl (by show World.cell? w _ = _; first | exact hO.cellL 1 rfl (off := 1) rfl)) ?_
 refine rq_v rfl rfl rfl (fun _ => ov_len rfl Tryz.underlying23 rfl) ?_
 refine rq_v rfl rfl rfl (fun _ => ov_sub rfl rfl rfl (by omega)) ?_
 refine rq_v rfl rfl rfl (fun _ => ov_index1 rfl Tryz.underlying23 (by kernel_rfl) rfl rfl ⟨by omega, by omega⟩ rfl) ?_
 refine rq_v rfl rfl rfl (fun _ => ov_load rfl Tryz.underlying3 rfl rfl (by show World.cell? w _ = _; first | exact hO.cellI 0 rfl _ (by omega) (by omega))) ?_
 refine rq_v rfl rfl rfl (fun _ => ov_assign rfl rfl) ?_
 refine rq_nil (fun n1 => ?_)
 have hO3 := hO.drewN n1
 generalize World.drewN w n1 = w2 at hO3 ⊢
 refine run_seq <| run_tail 14 mixed (by kernel_rfl) ?_
 have hO5 := hO3.drew
 generalize World.drew w2 = w4 at hO5 ⊢
 refine rt_v rfl rfl rfl (ov_move rfl rfl) <| rt_v rfl rfl rfl (ov_move rfl rfl) <| rt_v rfl rfl rfl (ov_nil rfl rfl) <| rt_v rfl rfl rfl (ov_fieldS rfl Tryz.underlying139 rfl (fo := 1) rfl (by kernel_rfl) rfl) ?_
 refine rt_v rfl rfl rfl (ov_load rfl Tryz.underlying23 rfl rfl (by exact hO5.cellL 1 rfl (off := 1) rfl)) ?_
 refine rt_v rfl rfl rfl (ov_move rfl rfl) <| rt_v rfl rfl rfl (ov_nil rfl rfl) <| rt_v rfl rfl rfl (ov_fieldS rfl Tryz.underlying139 rfl (fo := 1) rfl (by kernel_rfl) rfl) ?_
 refine rt_v rfl rfl rfl (ov_load rfl Tryz.underlying23 rfl rfl (by exact hO5.cellL 1 rfl (off := 1) rfl)) ?_
 refine rt_v rfl rfl rfl (ov_len rfl Tryz.underlying23 rfl) <| rt_v rfl rfl rfl (ov_sub rfl rfl rfl (by omega)) ?_
 refine rt_v rfl rfl rfl (ov_sliceH (n - 1) (s := 1) rfl Tryz.underlying23 (by kernel_rfl) rfl rfl (by omega) (by omega)) ?_
 refine rt_v rfl rfl rfl (ov_nil rfl rfl) <| rt_v rfl rfl rfl (ov_fieldS rfl Tryz.underlying139 rfl (fo := 1) rfl (by kernel_rfl) rfl) ?_
 refine rt_nil <| rl_ow rfl (ow_storeL rfl rfl (by kernel_rfl) hO5 1 rfl rfl rfl rfl rfl) ?_
 rintro _ w6 ⟨rfl, hO7, hs8⟩
 refine rl_nil <| run_seq <| run_region <| rl_v rfl rfl rfl (ov_move rfl rfl) <| rl_v rfl rfl rfl (ov_iface rfl Tryz.underlying3 (by intro _ h; cases h) rfl) ?_
 refine rl_v rfl rfl rfl (ov_assign rfl rfl) <| rl_nil <| run_ret Tryz.func191 (res1 Tryz.results191 rfl) ?_
 exact ⟨by rw [hG _ (by omega) (by omega)]; rfl, hO7⟩
end Go.Proofs.YtlldeifbfpmbaaaGreat
