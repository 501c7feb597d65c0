import Derived.Test.YteagflekbbchhaaReC
set_option maxRecDepth 100000
namespace Go.Proofs.Yteagflekbbchhaa
open Go.RowKit Go.Proofs
theorem memNM {N M H : List (Option Blk)} (h : ∀ x ∈ N, x ∈ H) : ∀ x ∈ N ++ M, x ∈ H ++ M := fun x hx => by
 rcases List.mem_append.1 hx with hx | hx
 ·exact List.mem_append_left _ (h x hx)
 ·exact List.mem_append_right _ hx
theorem rat2_any (X : MW) (K : RK) (n d : Int) (B : Nat) (N H : List (Option Blk)) (w0 w : World) (hn : n = 1 ∨ n = 2) (hG : Good X) (hL : LInv X) (hO : Own B w0 w H) (hN : ∀ x ∈ N, x ∈ H) (hK : XIn N X K) :
  Calls Try.prog 33 #[rwv X K, iv n, iv d] w fun e w' => e = .returned (iv ((X.lg n).state d)) ∧ Own B w0 w' H :=
 (rat_any X K n d B N H w0 w hn (hG.len (by omega)) hO hN hK).mono fun _ _ h => ⟨by rw [← at_state hL hG hn d]; exact h.1, h.2⟩
theorem state_rng (l : Lg) (d : Int) : 0 ≤ l.state d ∧ l.state d ≤ 3 := by
 unfold Lg.state
 split
 ·omega
 ·split
  ·omega
  ·split <;> omega
theorem sT_yes {X : MW} {n : Int} {m : Ms} (hk : m.k = 1) (hs : (X.lg n).state m.d = 1 ∨ (X.lg n).state m.d = 2) : (X.sTake n m).1 = X.send ⟨n, 0, 2, m.d⟩ := by
 unfold MW.sTake MW.sAsk; rcases hs with e | e <;> simp [hk, e]
theorem sT_no {X : MW} {n : Int} {m : Ms} (hk : m.k = 1) (hs : (X.lg n).state m.d = 3) : (X.sTake n m).1 = X.send ⟨n, 0, 3, m.d⟩ := by
 unfold MW.sTake MW.sAsk; simp [hk, hs]
theorem sT_poor {X : MW} {n : Int} {m : Ms} (hk : m.k = 1) (hs : (X.lg n).state m.d = 0) (hf : ¬ X.amount n m.d ≤ X.free n (X.payer n m.d)) : (X.sTake n m).1 = X.send ⟨n, 0, 3, m.d⟩ := by
 unfold MW.sTake MW.sAsk; simp [hk, hs, hf]
theorem sT_prep {X : MW} {n : Int} {m : Ms} (hk : m.k = 1) (hs : (X.lg n).state m.d = 0) (hf : X.amount n m.d ≤ X.free n (X.payer n m.d)) : (X.sTake n m).1 = if X.ok n = true then (X.wr n (1, m.d)).send ⟨n, 0, 2, m.d⟩ else X.wr n (1, m.d) := by
 unfold MW.sTake MW.sAsk; simp only [hk, hs, hf, if_true]; cases X.ok n <;> rfl
theorem sT_do {X : MW} {n : Int} {m : Ms} (hk : m.k = 4) (hs : (X.lg n).state m.d = 1) : (X.sTake n m).1 = if X.ok n = true then (X.wr n (2, m.d)).send ⟨n, 0, 6, m.d⟩ else X.wr n (2, m.d) := by
 unfold MW.sTake; simp only [hk, hs]; cases X.ok n <;> rfl
theorem sT_do2 {X : MW} {n : Int} {m : Ms} (hk : m.k = 4) (hs : (X.lg n).state m.d = 2) : (X.sTake n m).1 = X.send ⟨n, 0, 6, m.d⟩ := by unfold MW.sTake; simp [hk, hs]
theorem sT_do0 {X : MW} {n : Int} {m : Ms} (hk : m.k = 4) (h1 : ¬ (X.lg n).state m.d = 1) (h2 : ¬ (X.lg n).state m.d = 2) : (X.sTake n m).1 = X := by unfold MW.sTake; simp [hk, h1, h2]
theorem sT_dr {X : MW} {n : Int} {m : Ms} (hk : m.k = 5) (hs : (X.lg n).state m.d = 1) : (X.sTake n m).1 = if X.ok n = true then (X.wr n (3, m.d)).send ⟨n, 0, 6, m.d⟩ else X.wr n (3, m.d) := by
 unfold MW.sTake; simp only [hk, hs]; cases X.ok n <;> rfl
theorem sT_dr2 {X : MW} {n : Int} {m : Ms} (hk : m.k = 5) (hs : (X.lg n).state m.d = 2) : (X.sTake n m).1 = X := by unfold MW.sTake; simp [hk, hs]
theorem sT_dr0 {X : MW} {n : Int} {m : Ms} (hk : m.k = 5) (h1 : ¬ (X.lg n).state m.d = 1) (h2 : ¬ (X.lg n).state m.d = 2) : (X.sTake n m).1 = X.send ⟨n, 0, 6, m.d⟩ := by unfold MW.sTake; simp [hk, h1, h2]
theorem sT_x {X : MW} {n : Int} {m : Ms} (h1 : ¬ m.k = 1) (h4 : ¬ m.k = 4) (h5 : ¬ m.k = 5) : (X.sTake n m).1 = X := by unfold MW.sTake; simp [h1, h4, h5]
theorem rsite_any (X : MW) (n : Int) (m : Ms) (v : Value) (B : Nat) (N H : List (Option Blk)) (w0 w : World) (hn : n = 1 ∨ n = 2) (hG : Good X) (hL : LInv X) (hdw : (X.lg n).down = false) (hd : 1 ≤ m.d ∧ m.d ≤ X.deals.length) (hb : X.bag.length + 5 < 4000000000000) (hN : ∀ x ∈ N, x ∈ H) (h : RWt B w0 w v X N H) :
  Calls Try.prog 89 #[v, iv n, .agg (msl m).toArray] w fun e w' => ∃ v', e = .returned v' ∧ RWt B w0 w' v' (X.sTake n m).1 N H := by
 obtain ⟨K, rfl, hO, hK⟩ := h
 have hn3 : N3 n := N3.s hn
 have hdn := hG.dn
 have hlen := hG.len hn3
 have hfu := hG.fu n hn3
 have hsf := hG.sf n hn3
 have hwr : ∀ (k : Int) (v : Value) (H' : List (Option Blk)) (w : World), RWt B w0 w v X N H' → Calls Try.prog 90 #[v, iv n, iv k, iv m.d] w fun e w' => ∃ v', e = .returned (.tuple #[v', .bool (X.ok n)]) ∧ RWt B w0 w' v' (X.wr n (k, m.d)) N H' :=
  fun k v H' w h => rwrite_any X n (k, m.d) v B N H' w0 w hn3 (by omega) hfu hsf hdw hdn h
 have hwb : ∀ k, (X.wr n (k, m.d)).bag.length = X.bag.length := fun k => congrArg List.length (setLg_bag _ _ _)
 obtain ⟨⟨p0, p1⟩, ⟨p2, p3⟩, pne, p4, p5⟩ := hG.pays (n := n) (d := m.d) hd
 have hfl := hG.fl n hn
 have hmem := hG.mem
 refine calls_of_run (F := [(0, _), (1, _), (2, _)]) Try.func89 rfl Try.ntmps89 rfl rfl <| run_seq <| run_region <| rl_ow rfl (ow_box _ rfl rfl rfl rfl rfl hO) ?_
 rintro _ w1 ⟨b3, rfl, hO2, hs3⟩
 refine rl_ow rfl (ow_box _ rfl rfl rfl rfl rfl hO2) ?_
 rintro _ w4 ⟨b5, rfl, hO5, hs6⟩
 refine rl_ow rfl (ow_alloc _ rfl rfl rfl zero_69 rfl hO5) ?_
 rintro _ w7 ⟨b6, rfl, hO8, hs9⟩
 refine rl_nil <| run_seq <| run_region <| rl_v rfl rfl rfl (ov_loadW rfl Try.underlying69 rfl (by kernel_rfl) rfl hO8 2 rfl) ?_
 refine rl_v rfl rfl rfl (ov_move rfl rfl) <| rl_v rfl rfl rfl (ov_fieldS rfl Try.underlying136 rfl (fo := 3) rfl (by kernel_rfl) rfl) ?_
 refine rl_v rfl rfl rfl (ov_load rfl Try.underlying3 rfl rfl (by exact hO8.cellL 1 rfl rfl)) ?_
 refine rl_call callable_33 rfl rfl rfl rfl rfl rfl (rat2_any X K n m.d B _ _ w0 w7 hn hG hL hO8 (mem_c1 (mem_c1 (mem_c1 (memNM hN)))) hK.xin) (fun e10 w11 hp12 => ?_)
 obtain ⟨rfl, hO2⟩ := hp12
 refine ⟨_, rfl, ?_⟩
 have hsr := state_rng (X.lg n) m.d
 refine rl_v rfl rfl rfl (ov_assign rfl rfl) <| rl_nil <| run_seq <| run_region <| rl_v rfl rfl rfl (ov_assign rfl rfl) <| rl_nil <| run_seq <| run_seq <| run_region <| rl_v rfl rfl rfl (ov_fieldS rfl Try.underlying136 rfl (fo := 2) rfl (by kernel_rfl) rfl) ?_
 refine rl_v rfl rfl rfl (ov_load rfl Try.underlying3 rfl rfl (by exact hO2.cellL 1 rfl rfl)) ?_
 refine rl_nil <| run_block <| run_seq <| run_region <| rl_v rfl rfl rfl (ov_eql rfl rfl rfl) <| rl_v rfl rfl rfl (ov_assign rfl rfl) <| rl_nil ?_
 first | refine run_cond_dec rfl (fun k1 => ?_) (fun k1n => ?_) | refine run_cond rfl (fun k1 => ?_) (fun k1n => ?_)
 ·refine run_seq <| run_seq <| run_region <| rl_v rfl rfl rfl (ov_move rfl rfl) <| rl_v rfl rfl rfl (ov_eql rfl rfl rfl) <| rl_v rfl rfl rfl (ov_move rfl rfl) ?_
  first | refine rl_split_dec 23 rfl (fun s1 => ?_) (fun s1 => ?_) | refine rl_split 23 rfl (fun s1 => ?_) (fun s1 => ?_)
  ·refine rl_gskip rfl rfl rfl rfl rfl rfl <| rl_gskip rfl rfl rfl rfl rfl rfl <| rl_v rfl rfl rfl (ov_pick_t rfl rfl rfl) <| rl_nil <| run_cond_t rfl <| run_seq <| run_region <| rl_v rfl rfl rfl (ov_loadW rfl Try.underlying69 rfl (by kernel_rfl) rfl hO2 2 rfl) ?_
   refine rl_v rfl rfl rfl (ov_move rfl rfl) <| rl_v rfl rfl rfl (ov_fieldS rfl Try.underlying136 rfl (fo := 3) rfl (by kernel_rfl) rfl) ?_
   refine rl_v rfl rfl rfl (ov_load rfl Try.underlying3 rfl rfl (by exact hO2.cellL 1 rfl rfl)) ?_
   refine rl_call callable_84 rfl rfl rfl rfl rfl rfl (rsend_any X ⟨n, 0, 2, m.d⟩ _ B N _ w0 w11 (by omega) (RWt.of3 hO2 hK)) (fun e14 w15 hp16 => ?_)
   obtain ⟨v31, rfl, K2, rfl, hO3, hK2⟩ := hp16
   refine ⟨_, rfl, ?_⟩
   refine rl_ow rfl (ow_storeW rfl rfl (by kernel_rfl) hO3 0 rfl rfl (by rfl) rfl (by rfl)) ?_
   rintro _ w17 ⟨rfl, hO18, hs19⟩
   refine rl_nil <| run_ret Try.func89 (resW Try.results89 rfl Try.underlying69 rfl (by kernel_rfl) hO18 0 rfl) ?_
   exact ⟨_, rfl, by rw [sT_yes k1 (.inl s1)]; exact ⟨K2, rfl, hO18.tail.tail.tail, hK2⟩⟩
  ·refine rl_gv rfl rfl rfl rfl rfl (ov_move rfl rfl) <| rl_gv rfl rfl rfl rfl rfl (ov_eql rfl rfl rfl) <| rl_v rfl rfl rfl (ov_pick_f rfl rfl rfl) <| rl_nil ?_
   first | refine run_cond_dec rfl (fun s2 => ?_) (fun s2n => ?_) | refine run_cond rfl (fun s2 => ?_) (fun s2n => ?_)
   ·refine run_seq <| run_region <| rl_v rfl rfl rfl (ov_loadW rfl Try.underlying69 rfl (by kernel_rfl) rfl hO2 2 rfl) ?_
    refine rl_v rfl rfl rfl (ov_move rfl rfl) <| rl_v rfl rfl rfl (ov_fieldS rfl Try.underlying136 rfl (fo := 3) rfl (by kernel_rfl) rfl) ?_
    refine rl_v rfl rfl rfl (ov_load rfl Try.underlying3 rfl rfl (by exact hO2.cellL 1 rfl rfl)) ?_
    refine rl_call callable_84 rfl rfl rfl rfl rfl rfl (rsend_any X ⟨n, 0, 2, m.d⟩ _ B N _ w0 w11 (by omega) (RWt.of3 hO2 hK)) (fun e20 w21 hp22 => ?_)
    obtain ⟨v31, rfl, K2, rfl, hO3, hK2⟩ := hp22
    refine ⟨_, rfl, ?_⟩
    refine rl_ow rfl (ow_storeW rfl rfl (by kernel_rfl) hO3 0 rfl rfl (by rfl) rfl (by rfl)) ?_
    rintro _ w23 ⟨rfl, hO24, hs25⟩
    refine rl_nil <| run_ret Try.func89 (resW Try.results89 rfl Try.underlying69 rfl (by kernel_rfl) hO24 0 rfl) ?_
    exact ⟨_, rfl, by rw [sT_yes k1 (.inr s2)]; exact ⟨K2, rfl, hO24.tail.tail.tail, hK2⟩⟩
   ·refine run_skip <| run_seq <| run_region <| rl_v rfl rfl rfl (ov_loadW rfl Try.underlying69 rfl (by kernel_rfl) rfl hO2 2 rfl) ?_
    refine rl_v rfl rfl rfl (ov_move rfl rfl) <| rl_v rfl rfl rfl (ov_fieldS rfl Try.underlying136 rfl (fo := 3) rfl (by kernel_rfl) rfl) ?_
    refine rl_v rfl rfl rfl (ov_load rfl Try.underlying3 rfl rfl (by exact hO2.cellL 1 rfl rfl)) ?_
    refine rl_call callable_60 rfl rfl rfl rfl rfl rfl (rleg_any X K n m.d B _ _ w0 w11 hn hd hdn hO2 (mem_c1 (mem_c1 (mem_c1 (memNM hN)))) hK.xin) (fun e26 w27 hp28 => ?_)
    obtain ⟨rfl, hO3⟩ := hp28
    refine ⟨_, rfl, ?_⟩
    refine rl_v rfl rfl rfl (ov_move rfl rfl) <| rl_v rfl rfl rfl (ov_extract rfl rfl (by rfl)) ?_
    refine rl_v rfl rfl rfl (ov_extract rfl rfl (by rfl)) ?_
    refine rl_v rfl rfl rfl (ov_extract rfl rfl (by rfl)) ?_
    refine rl_v rfl rfl rfl (ov_assign rfl rfl) <| rl_v rfl rfl rfl (ov_assign rfl rfl) <| rl_v rfl rfl rfl (ov_assign rfl rfl) <| rl_nil <| run_seq <| run_seq <| run_region <| rl_v rfl rfl rfl (ov_move rfl rfl) <| rl_v rfl rfl rfl (ov_eql rfl rfl rfl) <| rl_v rfl rfl rfl (ov_move rfl rfl) ?_
    first | refine rl_split_dec 43 rfl (fun s3 => ?_) (fun s3 => ?_) | refine rl_split 43 rfl (fun s3 => ?_) (fun s3 => ?_)
    ·refine rl_gskip rfl rfl rfl rfl rfl rfl <| rl_gskip rfl rfl rfl rfl rfl rfl <| rl_gskip rfl rfl rfl rfl rfl rfl <| rl_gskip rfl rfl rfl rfl rfl rfl <| rl_gskip rfl rfl rfl rfl rfl rfl <| rl_gskip rfl rfl rfl rfl rfl rfl <| rl_gskip rfl rfl rfl rfl rfl rfl <| rl_gskip rfl rfl rfl rfl rfl rfl <| rl_gskip rfl rfl rfl rfl rfl rfl <| rl_v rfl rfl rfl (ov_pick_t rfl rfl rfl) <| rl_nil <| run_cond_t rfl <| run_seq <| run_region <| rl_v rfl rfl rfl (ov_loadW rfl Try.underlying69 rfl (by kernel_rfl) rfl hO3 2 rfl) ?_
     refine rl_v rfl rfl rfl (ov_move rfl rfl) <| rl_v rfl rfl rfl (ov_fieldS rfl Try.underlying136 rfl (fo := 3) rfl (by kernel_rfl) rfl) ?_
     refine rl_v rfl rfl rfl (ov_load rfl Try.underlying3 rfl rfl (by exact hO3.cellL 1 rfl rfl)) ?_
     refine rl_call callable_84 rfl rfl rfl rfl rfl rfl (rsend_any X ⟨n, 0, 3, m.d⟩ _ B N _ w0 w27 (by omega) (RWt.of3 hO3 hK)) (fun e30 w31 hp32 => ?_)
     obtain ⟨v58, rfl, K2, rfl, hO4, hK2⟩ := hp32
     refine ⟨_, rfl, ?_⟩
     refine rl_ow rfl (ow_storeW rfl rfl (by kernel_rfl) hO4 0 rfl rfl (by rfl) rfl (by rfl)) ?_
     rintro _ w33 ⟨rfl, hO34, hs35⟩
     refine rl_nil <| run_ret Try.func89 (resW Try.results89 rfl Try.underlying69 rfl (by kernel_rfl) hO34 0 rfl) ?_
     exact ⟨_, rfl, by rw [sT_no k1 s3]; exact ⟨K2, rfl, hO34.tail.tail.tail, hK2⟩⟩
    ·refine rl_gv rfl rfl rfl rfl rfl (ov_loadW rfl Try.underlying69 rfl (by kernel_rfl) rfl hO3 2 rfl) ?_
     refine rl_gv rfl rfl rfl rfl rfl (ov_move rfl rfl) ?_
     refine rl_gcall callable_37 rfl rfl rfl rfl rfl rfl rfl rfl (rfree_any X K n B _ _ w0 w27 hn hG hL hO3 (mem_c1 (mem_c1 (mem_c1 (memNM hN)))) hK.xin) (fun e36 w37 hp38 => ?_)
     obtain ⟨v46, c46, rfl, hr46, hO4⟩ := hp38
     refine ⟨_, rfl, ?_⟩
     obtain ⟨a46, p46, rfl⟩ := hr46.val
     obtain ⟨fb, hfa, hfr⟩ := hr46.openS hO4 0 rfl
     have c1 : X.payer n m.d + 1 - 1 = X.payer n m.d := by omega
     have hpp := (hfr (X.payer n m.d + 1 - 1) (by omega) (by omega)).trans (congrArg (fun i => some (iv (X.free n i))) c1)
     have hst0 : (X.lg n).state m.d = 0 := by omega
     refine rl_gv rfl rfl rfl rfl rfl (ov_move rfl rfl) <| rl_gv rfl rfl rfl rfl rfl (ov_sub rfl rfl rfl (by omega)) ?_
     refine rl_gv rfl rfl rfl rfl rfl (ov_index1 rfl Try.underlying22 (by kernel_rfl) rfl rfl ⟨by omega, by omega⟩ (by exact (hfa (by omega)))) ?_
     refine rl_gv rfl rfl rfl rfl rfl (ov_load rfl Try.underlying2 rfl rfl (by exact id hpp)) ?_
     refine rl_gv rfl rfl rfl rfl rfl (ov_move rfl rfl) <| rl_gv rfl rfl rfl rfl rfl (ov_lss rfl rfl rfl) <| rl_v rfl rfl rfl (ov_pick_f rfl rfl rfl) <| rl_nil ?_
     first | refine run_cond_dec rfl (fun k2 => ?_) (fun k2n => ?_) | refine run_cond rfl (fun k2 => ?_) (fun k2n => ?_)
     ·have hO5 := hO4.tail
      refine run_seq <| run_region <| rl_v rfl rfl rfl (ov_loadW rfl Try.underlying69 rfl (by kernel_rfl) rfl hO5 2 rfl) ?_
      refine rl_v rfl rfl rfl (ov_move rfl rfl) <| rl_v rfl rfl rfl (ov_fieldS rfl Try.underlying136 rfl (fo := 3) rfl (by kernel_rfl) rfl) ?_
      refine rl_v rfl rfl rfl (ov_load rfl Try.underlying3 rfl rfl (by exact hO5.cellL 1 rfl rfl)) ?_
      refine rl_call callable_84 rfl rfl rfl rfl rfl rfl (rsend_any X ⟨n, 0, 3, m.d⟩ _ B N _ w0 w37 (by omega) (RWt.of3 hO5 hK)) (fun e39 w40 hp41 => ?_)
      obtain ⟨v58, rfl, K2, rfl, hO4, hK2⟩ := hp41
      refine ⟨_, rfl, ?_⟩
      refine rl_ow rfl (ow_storeW rfl rfl (by kernel_rfl) hO4 0 rfl rfl (by rfl) rfl (by rfl)) ?_
      rintro _ w42 ⟨rfl, hO43, hs44⟩
      refine rl_nil <| run_ret Try.func89 (resW Try.results89 rfl Try.underlying69 rfl (by kernel_rfl) hO43 0 rfl) ?_
      exact ⟨_, rfl, by rw [sT_poor k1 hst0 (by omega)]; exact ⟨K2, rfl, hO43.tail.tail.tail, hK2⟩⟩
     ·have hO5 := hO4.tail
      refine run_skip <| run_seq <| run_region <| rl_v rfl rfl rfl (ov_loadW rfl Try.underlying69 rfl (by kernel_rfl) rfl hO5 2 rfl) ?_
      refine rl_v rfl rfl rfl (ov_move rfl rfl) <| rl_v rfl rfl rfl (ov_fieldS rfl Try.underlying136 rfl (fo := 3) rfl (by kernel_rfl) rfl) ?_
      refine rl_v rfl rfl rfl (ov_load rfl Try.underlying3 rfl rfl (by exact hO5.cellL 1 rfl rfl)) ?_
      refine rl_call callable_90 rfl rfl rfl rfl rfl rfl (hwr 1 _ _ w37 (RWt.of3 hO5 hK)) (fun e45 w46 hp47 => ?_)
      obtain ⟨v64, rfl, K2, rfl, hO4, hK2⟩ := hp47
      refine ⟨_, rfl, ?_⟩
      refine rl_v rfl rfl rfl (ov_move rfl rfl) <| rl_v rfl rfl rfl (ov_extract rfl rfl (by rfl)) ?_
      refine rl_v rfl rfl rfl (ov_extract rfl rfl (by rfl)) ?_
      refine rl_ow rfl (ow_storeW rfl rfl (by kernel_rfl) hO4 2 rfl rfl (by rfl) rfl (by rfl)) ?_
      rintro _ w48 ⟨rfl, hO49, hs50⟩
      refine rl_v rfl rfl rfl (ov_assign rfl rfl) <| rl_nil <| run_seq <| run_region <| rl_v rfl rfl rfl (ov_move rfl rfl) <| rl_nil ?_
      first | refine run_cond_dec rfl (fun hok => ?_) (fun hok => ?_) | refine run_cond rfl (fun hok => ?_) (fun hok => ?_)
      ·refine run_region <| rl_v rfl rfl rfl (ov_loadW rfl Try.underlying69 rfl (by kernel_rfl) rfl hO49 2 rfl) ?_
       refine rl_v rfl rfl rfl (ov_move rfl rfl) <| rl_v rfl rfl rfl (ov_fieldS rfl Try.underlying136 rfl (fo := 3) rfl (by kernel_rfl) rfl) ?_
       refine rl_v rfl rfl rfl (ov_load rfl Try.underlying3 rfl rfl (by exact hO49.cellL 1 rfl rfl)) ?_
       refine rl_call callable_84 rfl rfl rfl rfl rfl rfl (rsend_any (X.wr n (1, m.d)) ⟨n, 0, 2, m.d⟩ _ B N _ w0 w48 (by rw [hwb]; omega) (RWt.of3 hO49 hK2)) (fun e51 w52 hp53 => ?_)
       obtain ⟨v72, rfl, K3, rfl, hO6, hK3⟩ := hp53
       refine ⟨_, rfl, ?_⟩
       refine rl_ow rfl (ow_storeW rfl rfl (by kernel_rfl) hO6 2 rfl rfl (by rfl) rfl (by rfl)) ?_
       rintro _ w54 ⟨rfl, hO55, hs56⟩
       refine rl_nil <| run_inBlock <| run_seq <| run_region <| rl_v rfl rfl rfl (ov_loadW rfl Try.underlying69 rfl (by kernel_rfl) rfl hO55 2 rfl) ?_
       refine rl_ow rfl (ow_storeW rfl rfl (by kernel_rfl) hO55 0 rfl rfl (by rfl) rfl (by rfl)) ?_
       rintro _ w57 ⟨rfl, hO58, hs59⟩
       refine rl_nil <| run_ret Try.func89 (resW Try.results89 rfl Try.underlying69 rfl (by kernel_rfl) hO58 0 rfl) ?_
       exact ⟨_, rfl, by rw [sT_prep k1 hst0 (by omega), if_pos hok]; exact ⟨K3, rfl, hO58.tail.tail.tail, hK3⟩⟩
      ·refine run_skip <| run_inBlock <| run_seq <| run_region <| rl_v rfl rfl rfl (ov_loadW rfl Try.underlying69 rfl (by kernel_rfl) rfl hO49 2 rfl) ?_
       refine rl_ow rfl (ow_storeW rfl rfl (by kernel_rfl) hO49 0 rfl rfl (by rfl) rfl (by rfl)) ?_
       rintro _ w60 ⟨rfl, hO61, hs62⟩
       refine rl_nil <| run_ret Try.func89 (resW Try.results89 rfl Try.underlying69 rfl (by kernel_rfl) hO61 0 rfl) ?_
       exact ⟨_, rfl, by rw [sT_prep k1 hst0 (by omega), if_neg (by rw [hok]; decide)]; exact ⟨K2, rfl, hO61.tail.tail.tail, hK2⟩⟩
 ·refine run_seq <| run_region <| rl_v rfl rfl rfl (ov_eql rfl rfl rfl) <| rl_v rfl rfl rfl (ov_assign rfl rfl) <| rl_nil ?_
  first | refine run_cond_dec rfl (fun k4 => ?_) (fun k4n => ?_) | refine run_cond rfl (fun k4 => ?_) (fun k4n => ?_)
  ·refine run_seq <| run_seq <| run_region <| rl_v rfl rfl rfl (ov_move rfl rfl) <| rl_v rfl rfl rfl (ov_eql rfl rfl rfl) <| rl_nil ?_
   first | refine run_cond_dec rfl (fun s1 => ?_) (fun s1n => ?_) | refine run_cond rfl (fun s1 => ?_) (fun s1n => ?_)
   ·refine run_region <| rl_v rfl rfl rfl (ov_loadW rfl Try.underlying69 rfl (by kernel_rfl) rfl hO2 2 rfl) ?_
    refine rl_v rfl rfl rfl (ov_move rfl rfl) <| rl_v rfl rfl rfl (ov_fieldS rfl Try.underlying136 rfl (fo := 3) rfl (by kernel_rfl) rfl) ?_
    refine rl_v rfl rfl rfl (ov_load rfl Try.underlying3 rfl rfl (by exact hO2.cellL 1 rfl rfl)) ?_
    refine rl_call callable_90 rfl rfl rfl rfl rfl rfl (hwr 2 _ _ w11 (RWt.of3 hO2 hK)) (fun e63 w64 hp65 => ?_)
    obtain ⟨v82, rfl, K2, rfl, hO4, hK2⟩ := hp65
    refine ⟨_, rfl, ?_⟩
    refine rl_v rfl rfl rfl (ov_move rfl rfl) <| rl_v rfl rfl rfl (ov_extract rfl rfl (by rfl)) ?_
    refine rl_v rfl rfl rfl (ov_extract rfl rfl (by rfl)) ?_
    refine rl_ow rfl (ow_storeW rfl rfl (by kernel_rfl) hO4 2 rfl rfl (by rfl) rfl (by rfl)) ?_
    rintro _ w66 ⟨rfl, hO67, hs68⟩
    refine rl_v rfl rfl rfl (ov_assign rfl rfl) <| rl_nil <| run_seq <| run_region <| rl_v rfl rfl rfl (ov_move rfl rfl) <| rl_v rfl rfl rfl (ov_move rfl rfl) ?_
    first | refine rl_split_dec 86 rfl (fun hok => ?_) (fun hok => ?_) | refine rl_split 86 rfl (fun hok => ?_) (fun hok => ?_)
    ·refine rl_gv rfl rfl rfl rfl rfl (ov_move rfl rfl) <| rl_gv rfl rfl rfl rfl rfl (ov_eql rfl rfl rfl) <| rl_gv rfl rfl rfl rfl rfl (ov_move rfl rfl) ?_
     first | refine rl_split_dec 89 rfl (fun s2 => ?_) (fun s2 => ?_) | refine rl_split 89 rfl (fun s2 => ?_) (fun s2 => ?_)
     ·refine rl_gskip rfl rfl rfl rfl rfl rfl <| rl_gskip rfl rfl rfl rfl rfl rfl <| rl_gv rfl rfl rfl rfl rfl (ov_pick_t rfl rfl rfl) <| rl_v rfl rfl rfl (ov_pick_t rfl rfl rfl) <| rl_nil <| run_cond_t rfl <| run_region <| rl_v rfl rfl rfl (ov_loadW rfl Try.underlying69 rfl (by kernel_rfl) rfl hO67 2 rfl) ?_
      refine rl_v rfl rfl rfl (ov_move rfl rfl) <| rl_v rfl rfl rfl (ov_fieldS rfl Try.underlying136 rfl (fo := 3) rfl (by kernel_rfl) rfl) ?_
      refine rl_v rfl rfl rfl (ov_load rfl Try.underlying3 rfl rfl (by exact hO67.cellL 1 rfl rfl)) ?_
      refine rl_call callable_84 rfl rfl rfl rfl rfl rfl (rsend_any (X.wr n (2, m.d)) ⟨n, 0, 6, m.d⟩ _ B N _ w0 w66 (by rw [hwb]; omega) (RWt.of3 hO67 hK2)) (fun e71 w72 hp73 => ?_)
      obtain ⟨v98, rfl, K3, rfl, hO6, hK3⟩ := hp73
      refine ⟨_, rfl, ?_⟩
      refine rl_ow rfl (ow_storeW rfl rfl (by kernel_rfl) hO6 2 rfl rfl (by rfl) rfl (by rfl)) ?_
      rintro _ w74 ⟨rfl, hO75, hs76⟩
      refine rl_nil <| run_inBlock <| run_seq <| run_region <| rl_v rfl rfl rfl (ov_loadW rfl Try.underlying69 rfl (by kernel_rfl) rfl hO75 2 rfl) ?_
      refine rl_ow rfl (ow_storeW rfl rfl (by kernel_rfl) hO75 0 rfl rfl (by rfl) rfl (by rfl)) ?_
      rintro _ w77 ⟨rfl, hO78, hs79⟩
      refine rl_nil <| run_ret Try.func89 (resW Try.results89 rfl Try.underlying69 rfl (by kernel_rfl) hO78 0 rfl) ?_
      exact ⟨_, rfl, by rw [sT_do k4 s1, if_pos hok]; exact ⟨K3, rfl, hO78.tail.tail.tail, hK3⟩⟩
     ·refine rl_gv rfl rfl rfl rfl rfl (ov_move rfl rfl) <| rl_gv rfl rfl rfl rfl rfl (ov_eql rfl rfl rfl) <| rl_gv rfl rfl rfl rfl rfl (ov_pick_f rfl rfl rfl) <| rl_v rfl rfl rfl (ov_pick_t rfl rfl rfl) <| rl_nil ?_
      exfalso; exact s2 s1
    ·refine rl_gskip rfl rfl rfl rfl rfl rfl <| rl_gskip rfl rfl rfl rfl rfl rfl <| rl_gskip rfl rfl rfl rfl rfl rfl <| rl_gundef rfl rfl rfl rfl rfl <| rl_gundef rfl rfl rfl rfl rfl <| rl_gskip rfl rfl rfl rfl rfl rfl <| rl_v rfl rfl rfl (ov_pick_f rfl rfl rfl) <| rl_nil <| run_cond_f rfl <| run_skip <| run_inBlock <| run_seq <| run_region <| rl_v rfl rfl rfl (ov_loadW rfl Try.underlying69 rfl (by kernel_rfl) rfl hO67 2 rfl) ?_
     refine rl_ow rfl (ow_storeW rfl rfl (by kernel_rfl) hO67 0 rfl rfl (by rfl) rfl (by rfl)) ?_
     rintro _ w80 ⟨rfl, hO81, hs82⟩
     refine rl_nil <| run_ret Try.func89 (resW Try.results89 rfl Try.underlying69 rfl (by kernel_rfl) hO81 0 rfl) ?_
     exact ⟨_, rfl, by rw [sT_do k4 s1, if_neg (by rw [hok]; decide)]; exact ⟨K2, rfl, hO81.tail.tail.tail, hK2⟩⟩
   ·refine run_skip <| run_seq <| run_region <| rl_v rfl rfl rfl (ov_move rfl rfl) <| rl_v rfl rfl rfl (ov_move rfl rfl) <| rl_gv rfl rfl rfl rfl rfl (ov_move rfl rfl) <| rl_gv rfl rfl rfl rfl rfl (ov_eql rfl rfl rfl) <| rl_gv rfl rfl rfl rfl rfl (ov_move rfl rfl) ?_
    first | refine rl_split_dec 89 rfl (fun s3 => ?_) (fun s3 => ?_) | refine rl_split 89 rfl (fun s3 => ?_) (fun s3 => ?_)
    ·refine rl_gskip rfl rfl rfl rfl rfl rfl <| rl_gskip rfl rfl rfl rfl rfl rfl <| rl_gv rfl rfl rfl rfl rfl (ov_pick_t rfl rfl rfl) <| rl_v rfl rfl rfl (ov_pick_t rfl rfl rfl) <| rl_nil ?_
     exfalso; exact s1n s3
    ·refine rl_gv rfl rfl rfl rfl rfl (ov_move rfl rfl) <| rl_gv rfl rfl rfl rfl rfl (ov_eql rfl rfl rfl) <| rl_gv rfl rfl rfl rfl rfl (ov_pick_f rfl rfl rfl) <| rl_v rfl rfl rfl (ov_pick_t rfl rfl rfl) <| rl_nil ?_
     first | refine run_cond_dec rfl (fun s4 => ?_) (fun s4n => ?_) | refine run_cond rfl (fun s4 => ?_) (fun s4n => ?_)
     ·refine run_region <| rl_v rfl rfl rfl (ov_loadW rfl Try.underlying69 rfl (by kernel_rfl) rfl hO2 2 rfl) ?_
      refine rl_v rfl rfl rfl (ov_move rfl rfl) <| rl_v rfl rfl rfl (ov_fieldS rfl Try.underlying136 rfl (fo := 3) rfl (by kernel_rfl) rfl) ?_
      refine rl_v rfl rfl rfl (ov_load rfl Try.underlying3 rfl rfl (by exact hO2.cellL 1 rfl rfl)) ?_
      refine rl_call callable_84 rfl rfl rfl rfl rfl rfl (rsend_any (X) ⟨n, 0, 6, m.d⟩ _ B N _ w0 w11 (by omega) (RWt.of3 hO2 hK)) (fun e84 w85 hp86 => ?_)
      obtain ⟨v98, rfl, K3, rfl, hO6, hK3⟩ := hp86
      refine ⟨_, rfl, ?_⟩
      refine rl_ow rfl (ow_storeW rfl rfl (by kernel_rfl) hO6 2 rfl rfl (by rfl) rfl (by rfl)) ?_
      rintro _ w87 ⟨rfl, hO88, hs89⟩
      refine rl_nil <| run_inBlock <| run_seq <| run_region <| rl_v rfl rfl rfl (ov_loadW rfl Try.underlying69 rfl (by kernel_rfl) rfl hO88 2 rfl) ?_
      refine rl_ow rfl (ow_storeW rfl rfl (by kernel_rfl) hO88 0 rfl rfl (by rfl) rfl (by rfl)) ?_
      rintro _ w90 ⟨rfl, hO91, hs92⟩
      refine rl_nil <| run_ret Try.func89 (resW Try.results89 rfl Try.underlying69 rfl (by kernel_rfl) hO91 0 rfl) ?_
      exact ⟨_, rfl, by rw [sT_do2 k4 s4]; exact ⟨K3, rfl, hO91.tail.tail.tail, hK3⟩⟩
     ·refine run_skip <| run_inBlock <| run_seq <| run_region <| rl_v rfl rfl rfl (ov_loadW rfl Try.underlying69 rfl (by kernel_rfl) rfl hO2 2 rfl) ?_
      refine rl_ow rfl (ow_storeW rfl rfl (by kernel_rfl) hO2 0 rfl rfl (by rfl) rfl (by rfl)) ?_
      rintro _ w93 ⟨rfl, hO94, hs95⟩
      refine rl_nil <| run_ret Try.func89 (resW Try.results89 rfl Try.underlying69 rfl (by kernel_rfl) hO94 0 rfl) ?_
      exact ⟨_, rfl, by rw [sT_do0 k4 s1n s4n]; exact ⟨K, rfl, hO94.tail.tail.tail, hK⟩⟩
  ·refine run_seq <| run_region <| rl_v rfl rfl rfl (ov_eql rfl rfl rfl) <| rl_v rfl rfl rfl (ov_assign rfl rfl) <| rl_nil ?_
   first | refine run_cond_dec rfl (fun k5 => ?_) (fun k5n => ?_) | refine run_cond rfl (fun k5 => ?_) (fun k5n => ?_)
   ·refine run_seq <| run_seq <| run_region <| rl_v rfl rfl rfl (ov_move rfl rfl) <| rl_v rfl rfl rfl (ov_eql rfl rfl rfl) <| rl_nil ?_
    first | refine run_cond_dec rfl (fun s1 => ?_) (fun s1n => ?_) | refine run_cond rfl (fun s1 => ?_) (fun s1n => ?_)
    ·refine run_region <| rl_v rfl rfl rfl (ov_loadW rfl Try.underlying69 rfl (by kernel_rfl) rfl hO2 2 rfl) ?_
     refine rl_v rfl rfl rfl (ov_move rfl rfl) <| rl_v rfl rfl rfl (ov_fieldS rfl Try.underlying136 rfl (fo := 3) rfl (by kernel_rfl) rfl) ?_
     refine rl_v rfl rfl rfl (ov_load rfl Try.underlying3 rfl rfl (by exact hO2.cellL 1 rfl rfl)) ?_
     refine rl_call callable_90 rfl rfl rfl rfl rfl rfl (hwr 3 _ _ w11 (RWt.of3 hO2 hK)) (fun e96 w97 hp98 => ?_)
     obtain ⟨v108, rfl, K2, rfl, hO4, hK2⟩ := hp98
     refine ⟨_, rfl, ?_⟩
     refine rl_v rfl rfl rfl (ov_move rfl rfl) <| rl_v rfl rfl rfl (ov_extract rfl rfl (by rfl)) ?_
     refine rl_v rfl rfl rfl (ov_extract rfl rfl (by rfl)) ?_
     refine rl_ow rfl (ow_storeW rfl rfl (by kernel_rfl) hO4 2 rfl rfl (by rfl) rfl (by rfl)) ?_
     rintro _ w99 ⟨rfl, hO100, hs101⟩
     refine rl_v rfl rfl rfl (ov_assign rfl rfl) <| rl_nil <| run_seq <| run_region <| rl_v rfl rfl rfl (ov_move rfl rfl) <| rl_v rfl rfl rfl (ov_move rfl rfl) ?_
     first | refine rl_split_dec 112 rfl (fun hok => ?_) (fun hok => ?_) | refine rl_split 112 rfl (fun hok => ?_) (fun hok => ?_)
     ·refine rl_gv rfl rfl rfl rfl rfl (ov_move rfl rfl) <| rl_gv rfl rfl rfl rfl rfl (ov_neq rfl rfl rfl) <| rl_v rfl rfl rfl (ov_pick_t rfl rfl rfl) <| rl_nil ?_
      first | refine run_cond_dec rfl (fun s2 => ?_) (fun s2n => ?_) | refine run_cond rfl (fun s2 => ?_) (fun s2n => ?_)
      ·refine run_region <| rl_v rfl rfl rfl (ov_loadW rfl Try.underlying69 rfl (by kernel_rfl) rfl hO100 2 rfl) ?_
       refine rl_v rfl rfl rfl (ov_move rfl rfl) <| rl_v rfl rfl rfl (ov_fieldS rfl Try.underlying136 rfl (fo := 3) rfl (by kernel_rfl) rfl) ?_
       refine rl_v rfl rfl rfl (ov_load rfl Try.underlying3 rfl rfl (by exact hO100.cellL 1 rfl rfl)) ?_
       refine rl_call callable_84 rfl rfl rfl rfl rfl rfl (rsend_any (X.wr n (3, m.d)) ⟨n, 0, 6, m.d⟩ _ B N _ w0 w99 (by rw [hwb]; omega) (RWt.of3 hO100 hK2)) (fun e103 w104 hp105 => ?_)
       obtain ⟨v120, rfl, K3, rfl, hO6, hK3⟩ := hp105
       refine ⟨_, rfl, ?_⟩
       refine rl_ow rfl (ow_storeW rfl rfl (by kernel_rfl) hO6 2 rfl rfl (by rfl) rfl (by rfl)) ?_
       rintro _ w106 ⟨rfl, hO107, hs108⟩
       refine rl_nil <| run_inBlock <| run_seq <| run_region <| rl_v rfl rfl rfl (ov_loadW rfl Try.underlying69 rfl (by kernel_rfl) rfl hO107 2 rfl) ?_
       refine rl_ow rfl (ow_storeW rfl rfl (by kernel_rfl) hO107 0 rfl rfl (by rfl) rfl (by rfl)) ?_
       rintro _ w109 ⟨rfl, hO110, hs111⟩
       refine rl_nil <| run_ret Try.func89 (resW Try.results89 rfl Try.underlying69 rfl (by kernel_rfl) hO110 0 rfl) ?_
       exact ⟨_, rfl, by rw [sT_dr k5 s1, if_pos hok]; exact ⟨K3, rfl, hO110.tail.tail.tail, hK3⟩⟩
      ·exfalso; omega
     ·refine rl_gskip rfl rfl rfl rfl rfl rfl <| rl_gskip rfl rfl rfl rfl rfl rfl <| rl_v rfl rfl rfl (ov_pick_f rfl rfl rfl) <| rl_nil <| run_cond_f rfl <| run_skip <| run_inBlock <| run_seq <| run_region <| rl_v rfl rfl rfl (ov_loadW rfl Try.underlying69 rfl (by kernel_rfl) rfl hO100 2 rfl) ?_
      refine rl_ow rfl (ow_storeW rfl rfl (by kernel_rfl) hO100 0 rfl rfl (by rfl) rfl (by rfl)) ?_
      rintro _ w112 ⟨rfl, hO113, hs114⟩
      refine rl_nil <| run_ret Try.func89 (resW Try.results89 rfl Try.underlying69 rfl (by kernel_rfl) hO113 0 rfl) ?_
      exact ⟨_, rfl, by rw [sT_dr k5 s1, if_neg (by rw [hok]; decide)]; exact ⟨K2, rfl, hO113.tail.tail.tail, hK2⟩⟩
    ·refine run_skip <| run_seq <| run_region <| rl_v rfl rfl rfl (ov_move rfl rfl) <| rl_v rfl rfl rfl (ov_move rfl rfl) <| rl_gv rfl rfl rfl rfl rfl (ov_move rfl rfl) <| rl_gv rfl rfl rfl rfl rfl (ov_neq rfl rfl rfl) <| rl_v rfl rfl rfl (ov_pick_t rfl rfl rfl) <| rl_nil ?_
     first | refine run_cond_dec rfl (fun s2 => ?_) (fun s2n => ?_) | refine run_cond rfl (fun s2 => ?_) (fun s2n => ?_)
     ·refine run_region <| rl_v rfl rfl rfl (ov_loadW rfl Try.underlying69 rfl (by kernel_rfl) rfl hO2 2 rfl) ?_
      refine rl_v rfl rfl rfl (ov_move rfl rfl) <| rl_v rfl rfl rfl (ov_fieldS rfl Try.underlying136 rfl (fo := 3) rfl (by kernel_rfl) rfl) ?_
      refine rl_v rfl rfl rfl (ov_load rfl Try.underlying3 rfl rfl (by exact hO2.cellL 1 rfl rfl)) ?_
      refine rl_call callable_84 rfl rfl rfl rfl rfl rfl (rsend_any (X) ⟨n, 0, 6, m.d⟩ _ B N _ w0 w11 (by omega) (RWt.of3 hO2 hK)) (fun e115 w116 hp117 => ?_)
      obtain ⟨v120, rfl, K3, rfl, hO6, hK3⟩ := hp117
      refine ⟨_, rfl, ?_⟩
      refine rl_ow rfl (ow_storeW rfl rfl (by kernel_rfl) hO6 2 rfl rfl (by rfl) rfl (by rfl)) ?_
      rintro _ w118 ⟨rfl, hO119, hs120⟩
      refine rl_nil <| run_inBlock <| run_seq <| run_region <| rl_v rfl rfl rfl (ov_loadW rfl Try.underlying69 rfl (by kernel_rfl) rfl hO119 2 rfl) ?_
      refine rl_ow rfl (ow_storeW rfl rfl (by kernel_rfl) hO119 0 rfl rfl (by rfl) rfl (by rfl)) ?_
      rintro _ w121 ⟨rfl, hO122, hs123⟩
      refine rl_nil <| run_ret Try.func89 (resW Try.results89 rfl Try.underlying69 rfl (by kernel_rfl) hO122 0 rfl) ?_
      exact ⟨_, rfl, by rw [sT_dr0 k5 s1n s2]; exact ⟨K3, rfl, hO122.tail.tail.tail, hK3⟩⟩
     ·refine run_skip <| run_inBlock <| run_seq <| run_region <| rl_v rfl rfl rfl (ov_loadW rfl Try.underlying69 rfl (by kernel_rfl) rfl hO2 2 rfl) ?_
      refine rl_ow rfl (ow_storeW rfl rfl (by kernel_rfl) hO2 0 rfl rfl (by rfl) rfl (by rfl)) ?_
      rintro _ w124 ⟨rfl, hO125, hs126⟩
      refine rl_nil <| run_ret Try.func89 (resW Try.results89 rfl Try.underlying69 rfl (by kernel_rfl) hO125 0 rfl) ?_
      exact ⟨_, rfl, by rw [sT_dr2 k5 (by omega)]; exact ⟨K, rfl, hO125.tail.tail.tail, hK⟩⟩
   ·refine run_skip <| run_inBlock <| run_seq <| run_region <| rl_v rfl rfl rfl (ov_loadW rfl Try.underlying69 rfl (by kernel_rfl) rfl hO2 2 rfl) ?_
    refine rl_ow rfl (ow_storeW rfl rfl (by kernel_rfl) hO2 0 rfl rfl (by rfl) rfl (by rfl)) ?_
    rintro _ w127 ⟨rfl, hO128, hs129⟩
    refine rl_nil <| run_ret Try.func89 (resW Try.results89 rfl Try.underlying69 rfl (by kernel_rfl) hO128 0 rfl) ?_
    exact ⟨_, rfl, by rw [sT_x k1n k4n k5n]; exact ⟨K, rfl, hO128.tail.tail.tail, hK⟩⟩
end Go.Proofs.Yteagflekbbchhaa
