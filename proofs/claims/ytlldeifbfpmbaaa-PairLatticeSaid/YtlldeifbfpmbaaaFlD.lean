import Derived.Test.YtlldeifbfpmbaaaFlB
import Derived.Test.YtlldeifbfpmbaaaFlC
import Derived.Test.YtlldeifbfpmbaaaFkF
set_option maxRecDepth 100000
namespace Go.Proofs.Ytlldeifbfpmbaaa
open Go.RowKit Go.Proofs Go.MapKept
namespace Fair
theorem share_any {f : Fair} (hf : f.Ok) {a b : Int → Int} (ha : f.Stab a) (hb : f.Stab b) : f.Share a b := by
 obtain ⟨l, hl⟩ := Best.exists hf
 have h1 := hl.share ha
 have h2 := hl.share hb
 exact ⟨fun g g0 g1 => (h1.who g g0 g1).symm.trans (h2.who g g0 g1), fun c c0 c1 => (h1.cnt c c0 c1).symm.trans (h2.cnt c c0 c1), fun c c0 c1 hlt g g0 g1 => by
  rw [← h1.cnt c c0 c1] at hlt
  exact (h1.low c c0 c1 hlt g g0 g1).symm.trans (h2.low c c0 c1 hlt g g0 g1)⟩
end Fair
def two5 (a b : Int → Int) : Int → Int → Int := fun r => if r = 0 then a else b
theorem bestL_join {f : Fair} {a b l : Int → Int} (ha : f.Stab a) (hb : f.Stab b) (hs : f.Share a b) (h : BestL f 2 (two5 a b) l) : ∀ g : Int, 0 ≤ g → g < f.n → f.join a b g = l g := fun g g0 g1 => by
 obtain ⟨⟨r, ⟨r0, r1⟩, e⟩, hm⟩ := h g g0 g1
 have h0 := hm 0 (by decide) (by decide)
 have h1 := hm 1 (by decide) (by decide)
 have e0 : two5 a b 0 g = a g := rfl
 have e1 : two5 a b 1 g = b g := rfl
 rw [e0] at h0
 rw [e1] at h1
 have hab : l g = a g ∨ l g = b g := by
  unfold two5 at e
  split at e
  ·exact .inl e
  ·exact .inr e
 unfold Fair.join
 split
 ·rename_i hl
  rcases hab with h | h
  ·rw [h] at h1; exact absurd hl h1
  ·exact h.symm
 ·rename_i hl
  rcases hab with h | h
  ·exact h.symm
  ·by_cases c : a g = b g
   ·rw [h]; exact c
   ·rcases Fair.lik_or ha hb g0 g1 (hs.who g g0 g1) c with h2 | h2
    ·rw [h] at h0; exact absurd h2 h0
    ·exact absurd h2 hl
theorem worstL_meet {f : Fair} {a b l : Int → Int} (ha : f.Stab a) (hb : f.Stab b) (hs : f.Share a b) (h : WorstL f 2 (two5 a b) l) : ∀ g : Int, 0 ≤ g → g < f.n → f.meet a b g = l g := fun g g0 g1 => by
 obtain ⟨⟨r, ⟨r0, r1⟩, e⟩, hm⟩ := h g g0 g1
 have h0 := hm 0 (by decide) (by decide)
 have h1 := hm 1 (by decide) (by decide)
 have e0 : two5 a b 0 g = a g := rfl
 have e1 : two5 a b 1 g = b g := rfl
 rw [e0] at h0
 rw [e1] at h1
 have hab : l g = a g ∨ l g = b g := by
  unfold two5 at e
  split at e
  ·exact .inl e
  ·exact .inr e
 unfold Fair.meet
 split
 ·rename_i hl
  rcases hab with h | h
  ·exact h.symm
  ·rw [h] at h0; exact absurd hl h0
 ·rename_i hl
  rcases hab with h | h
  ·by_cases c : a g = b g
   ·rw [h]; exact c.symm
   ·rcases Fair.lik_or ha hb g0 g1 (hs.who g g0 g1) c with h2 | h2
    ·rw [h] at h1; exact absurd h2 h1
    ·exact absurd h2 hl
  ·exact h.symm
theorem mgE_0 {f : Fair} {a b : Int → Int} (ha : f.Stab a) (hb : f.Stab b) : mgE f f.n f.n a b = 0 := by
 unfold mgE
 rw [if_neg (fun h => h.elim (fun h => h rfl) fun h => h rfl), if_neg (fun h => h ⟨ha, hb⟩)]
theorem mgE_7 {f : Fair} {b c : Int → Int} {n : Nat} (h : n ≠ f.n) : mgE f n f.n c b = 7 := if_pos (.inl h)
theorem mgE_4 {f : Fair} {b c : Int → Int} (hc : ¬ f.Stab c) : mgE f f.n f.n c b = 4 := by
 unfold mgE
 rw [if_neg (fun h => h.elim (fun h => h rfl) fun h => h rfl), if_pos (fun x => hc x.1)]
theorem mgE_4' {f : Fair} {a c : Int → Int} (hc : ¬ f.Stab c) : mgE f f.n f.n a c = 4 := by
 unfold mgE
 rw [if_neg (fun h => h.elim (fun h => h rfl) fun h => h rfl), if_pos (fun x => hc x.2)]
theorem mgE_swap {f : Fair} {a b c : Int → Int} {n : Nat} (ha : f.Stab a) (hb : f.Stab b) : mgE f n f.n c b = mgE f f.n n a c := by
 by_cases h : n = f.n
 ·rw [h]
  by_cases hc : f.Stab c
  ·rw [mgE_0 hc hb, mgE_0 ha hc]
  ·rw [mgE_4 hc, mgE_4' hc]
 ·exact (mgE_7 h).trans (show mgE f f.n n a c = 7 from if_pos (.inr h)).symm
theorem idx5 (z : Int) {N : Nat} (h0 : 0 < N) (h1 : N ≤ 1000) : 0 ≤ IntKind.i64.wrap (IntKind.u64.wrap z % IntKind.u64.wrap (N : Int)) ∧ IntKind.i64.wrap (IntKind.u64.wrap z % IntKind.u64.wrap (N : Int)) < N := by
 have eN : IntKind.u64.wrap (N : Int) = N := IntWalk.u64_in _ (by omega)
 have hx2 : IntKind.u64.wrap z % IntKind.u64.wrap (N : Int) < N := by rw [eN]; exact Int.emod_lt_of_pos _ (by omega)
 have hx3 : 0 ≤ IntKind.u64.wrap z % IntKind.u64.wrap (N : Int) := by rw [eN]; exact Int.emod_nonneg _ (by omega)
 have hx4 : IntKind.i64.wrap (IntKind.u64.wrap z % IntKind.u64.wrap (N : Int)) = IntKind.u64.wrap z % IntKind.u64.wrap (N : Int) := IntWalk.i64_in _ (by omega)
 rw [hx4]
 exact ⟨hx3, hx2⟩
theorem two_tab {B : Nat} {w : World} {ao a0 a1 : Option Addr} {n c0 c1 : Nat} {G : Int → Value} {a b : Int → Int} (h : IAt B w ao 2 G) (e0 : G 0 = .slice a0 n c0) (e1 : G 1 = .slice a1 n c1) (h0 : IAt B w a0 n (fun i => iv (a i))) (h1 : IAt B w a1 n (fun i => iv (b i))) : ITab B w ao 2 (fun _ => n) (fun r c => iv (two5 a b r c)) :=
 ⟨fun r => if r = 0 then a0 else a1, fun r => if r = 0 then c0 else c1, h.congr (fun i i0 i1 => by
  by_cases c : i = 0
  ·rw [c, e0]; simp
  ·rw [show i = 1 by omega, e1]; simp), fun r r0 r1 => by
  unfold two5
  by_cases c : r = 0
  ·simp only [if_pos c]; exact h0
  ·simp only [if_neg c]; exact h1⟩
set_option maxHeartbeats 8000000 in
theorem lattice5_any (ga ba qa la : Option Addr) (n gc m bc nq qc ln lc : Nat) (GL BL : Int → Nat) (GE BE : Int → Int → Int) (q l x : Int → Int) (w : World)
  (hG : RTab w.heap.size w ga n GL GE) (hB : RTab w.heap.size w ba m BL BE) (hQ : IAt w.heap.size w qa nq (fun i => iv (q i))) (hlc : ln ≤ lc) (hl : IAt w.heap.size w la ln (fun i => iv (l i))) :
  Calls Try.prog 5 #[.agg (fairL ga ba qa n gc m bc nq qc).toArray, arrv 2 (fun i => iv (x i)), .slice la ln lc] w fun e w' => e = .returned (.bool true) ∧ Below w.heap.size w w' := by
 refine calls_of_run (F := [(0, _), (1, _), (2, _)]) Try.func5 rfl Try.ntmps5 rfl rfl ?_
 have hO0 := Own.init w
 refine run_seq <| run_region <| rl_ow rfl (ow_box _ rfl rfl rfl rfl rfl hO0) ?_
 rintro _ w1 ⟨b3, rfl, hO2, hs3⟩
 refine rl_ow rfl (ow_boxA rfl rfl rfl rfl hO2) ?_
 rintro _ w4 ⟨b4, rfl, hO5, hs6⟩
 refine rl_v rfl rfl rfl (ov_assign rfl rfl) <| rl_nil <| run_seq <| run_region <| rl_v rfl rfl rfl (ov_loadW rfl Try.underlying25 rfl (by kernel_rfl) rfl hO5 1 rfl) ?_
 refine rl_call callable_10 rfl rfl rfl rfl rfl rfl (tame5_any ga ba qa n gc m bc nq qc 4 4 GL BL GE BE q _ (by decide) (by decide) (hO5.rtab hG) (hO5.rtab hB) (hO5.iatF hQ)) (fun e7 w8 hp9 => ?_)
 obtain ⟨f, ga1, ba1, qa1, gc1, bc1, qc1, Hg, Hb, cq, rfl, hfn, hfm, hF, hO1⟩ := hp9
 refine ⟨_, rfl, ?_⟩
 have hO10 := hO5.join hO1
 have hV := hF.ok
 have hlg := hV.lg
 have hn4 : f.n ≤ 4 := by omega
 have hm4 : f.m ≤ 4 := by omega
 refine rl_ow rfl (ow_alloc _ rfl rfl rfl zero_25 rfl hO10) ?_
 rintro _ w11 ⟨b7, rfl, hO12, hs13⟩
 refine rl_ow rfl (ow_storeW rfl rfl (by kernel_rfl) hO12 0 rfl rfl (by rfl) rfl (by rfl)) ?_
 rintro _ w14 ⟨rfl, hO15, hs16⟩
 refine rl_nil <| run_seq <| run_region <| rl_v rfl rfl rfl (ov_loadW rfl Try.underlying25 rfl (by kernel_rfl) rfl hO15 0 rfl) ?_
 refine rl_call callable_12 rfl rfl rfl rfl rfl rfl (give5_any ga1 ba1 qa1 f.n gc1 f.m bc1 f.m qc1 _) (fun e17 w18 hp19 => ?_)
 obtain ⟨rfl, hbl1⟩ := hp19
 refine ⟨_, rfl, ?_⟩
 have hO20 := hO15.past hbl1
 refine rl_ow rfl (ow_alloc _ rfl rfl rfl zero_30 rfl hO20) ?_
 rintro _ w21 ⟨b8, rfl, hO22, hs23⟩
 refine rl_ow rfl (ow_storeW rfl rfl (by kernel_rfl) hO22 0 rfl rfl (by rfl) rfl (by rfl)) ?_
 rintro _ w24 ⟨rfl, hO25, hs26⟩
 obtain ⟨K, hK⟩ : ∃ K, K = (cq :: (Hg ++ Hb)) := ⟨_, rfl⟩
 have hSK : FSrc K ga1 ba1 qa1 f := by rw [hK]; exact hF.src
 have hOa : Own w.heap.size w w24 (some (lch b8 30 (fairL ga1 ba1 qa1 f.n gc1 f.m bc1 f.m qc1)) :: some (lch b7 25 (fairL ga1 ba1 qa1 f.n gc1 f.m bc1 f.m qc1)) :: some (vch b4 41 2 (fun i => iv (x i))) :: K) := by
  have h := hO25
  rw [← hK] at h
  exact (h.perm (((List.perm_append_comm).cons _).cons _)).sub (.cons_cons _ (.cons_cons _ (.cons_cons _ (.cons _ (.refl _)))))
 clear hK
 refine rl_nil <| run_seq <| run_region <| rl_v rfl rfl rfl (ov_loadW rfl Try.underlying25 rfl (by kernel_rfl) rfl hOa 1 rfl) ?_
 refine rl_call callable_20 rfl rfl rfl rfl rfl rfl (refAll_any ga1 ba1 qa1 gc1 bc1 qc1 f _ hV hn4 hm4 (hSK.at hOa.tail.tail.tail)) (fun e27 w28 hp29 => ?_)
 obtain ⟨va, vc, N, A, HA, rfl, hN, hTA, hOA, hAS⟩ := hp29
 refine ⟨_, rfl, ?_⟩
 have hO30 := hOa.join hOA
 have hOb := hO30.perm List.perm_append_comm
 have hpos := hAS.pos hV.ok
 refine rl_v rfl rfl rfl (ov_assign rfl rfl) <| rl_nil <| run_seq <| run_seq <| run_region <| rl_v rfl rfl rfl (ov_move rfl rfl) <| rl_v rfl rfl rfl (ov_len rfl Try.underlying22 rfl) <| rl_v rfl rfl rfl (ov_eql rfl rfl rfl) <| rl_nil ?_
 first | refine run_cond_dec rfl (fun bad => ?_) (fun bad => ?_) | refine run_cond rfl (fun bad => ?_) (fun bad => ?_)
 ·exfalso; omega
 ·obtain ⟨W, hW⟩ : ∃ W, W = some (lch b8 30 (fairL ga1 ba1 qa1 f.n gc1 f.m bc1 f.m qc1)) :: some (lch b7 25 (fairL ga1 ba1 qa1 f.n gc1 f.m bc1 f.m qc1)) :: some (vch b4 41 2 (fun i => iv (x i))) :: (K ++ HA) := ⟨_, rfl⟩
  have hSW : FSrc W ga1 ba1 qa1 f := by rw [hW]; exact hSK.sub (.cons _ (.cons _ (.cons _ (List.sublist_append_left _ _))))
  have hW0 : W[0]? = some (some (lch b8 30 (fairL ga1 ba1 qa1 f.n gc1 f.m bc1 f.m qc1))) := by rw [hW]; rfl
  have hW1 : W[1]? = some (some (lch b7 25 (fairL ga1 ba1 qa1 f.n gc1 f.m bc1 f.m qc1))) := by rw [hW]; rfl
  have hW2 : W[2]? = some (some (vch b4 41 2 (fun i => iv (x i)))) := by rw [hW]; rfl
  have hsA : HA.Sublist W := by rw [hW]; exact .cons _ (.cons _ (.cons _ (List.sublist_append_right _ _)))
  have hOW : Own w.heap.size w w28 W := by rw [hW]; exact hOb
  clear hW
  have eN : IntKind.u64.wrap (N : Int) = N := IntWalk.u64_in _ (by omega)
  have hi0 := idx5 (x 0) hpos hN
  have hj0 := idx5 (x 1) hpos hN
  obtain ⟨RA, RC, gb, go, hga, hrd⟩ := (OTab.rown (F := fun r k => A r.toNat k) hTA).addr (hOW.sub hsA) hpos
  refine run_skip <| run_seq <| run_quiet mixed (by kernel_rfl) ?_
  refine rq_v rfl rfl rfl (fun _ => ov_move rfl rfl) ?_
  refine rq_v rfl rfl rfl (fun _ => ov_indexA1 rfl Try.underlying41 (by kernel_rfl) rfl rfl ⟨by omega, by omega⟩) ?_
  refine rq_v rfl rfl rfl (fun _ => ov_load rfl Try.underlying3 rfl rfl (by show World.cell? w28 _ = _; first | exact hOW.cellI 2 hW2 0 (by decide) (by decide))) ?_
  refine rq_v rfl rfl rfl (fun _ => ov_conv rfl Try.underlying3 Try.underlying37 rfl) ?_
  refine rq_v rfl rfl rfl (fun _ => ov_move rfl rfl) ?_
  refine rq_v rfl rfl rfl (fun _ => ov_len rfl Try.underlying22 rfl) ?_
  refine rq_v rfl rfl rfl (fun _ => ov_conv rfl Try.underlying3 Try.underlying37 rfl) ?_
  refine rq_v rfl rfl rfl (fun _ => ov_rem rfl rfl rfl (u64_nn5 _) (by omega)) ?_
  refine rq_v rfl rfl rfl (fun _ => ov_conv rfl Try.underlying37 Try.underlying3 rfl) ?_
  refine rq_v rfl rfl rfl (fun _ => ov_index1 rfl Try.underlying22 (by kernel_rfl) rfl rfl hi0 (by exact (id hga))) ?_
  refine rq_v rfl rfl rfl (fun _ => ov_load rfl Try.underlying23 rfl rfl (by show World.cell? w28 _ = _; first | exact (hrd (hOW.sub hsA)).1 _ hi0.1 hi0.2)) ?_
  refine rq_v rfl rfl rfl (fun _ => ov_move rfl rfl) ?_
  refine rq_v rfl rfl rfl (fun _ => ov_indexA1 rfl Try.underlying41 (by kernel_rfl) rfl rfl ⟨by omega, by omega⟩) ?_
  refine rq_v rfl rfl rfl (fun _ => ov_load rfl Try.underlying3 rfl rfl (by show World.cell? w28 _ = _; first | exact hOW.cellI 2 hW2 1 (by decide) (by decide))) ?_
  refine rq_v rfl rfl rfl (fun _ => ov_conv rfl Try.underlying3 Try.underlying37 rfl) ?_
  refine rq_v rfl rfl rfl (fun _ => ov_move rfl rfl) ?_
  refine rq_v rfl rfl rfl (fun _ => ov_len rfl Try.underlying22 rfl) ?_
  refine rq_v rfl rfl rfl (fun _ => ov_conv rfl Try.underlying3 Try.underlying37 rfl) ?_
  refine rq_v rfl rfl rfl (fun _ => ov_rem rfl rfl rfl (u64_nn5 _) (by omega)) ?_
  refine rq_v rfl rfl rfl (fun _ => ov_conv rfl Try.underlying37 Try.underlying3 rfl) ?_
  refine rq_v rfl rfl rfl (fun _ => ov_index1 rfl Try.underlying22 (by kernel_rfl) rfl rfl hj0 (by exact (id hga))) ?_
  refine rq_v rfl rfl rfl (fun _ => ov_load rfl Try.underlying23 rfl rfl (by show World.cell? w28 _ = _; first | exact (hrd (hOW.sub hsA)).1 _ hj0.1 hj0.2)) ?_
  refine rq_v rfl rfl rfl (fun _ => ov_assign rfl rfl) ?_
  refine rq_v rfl rfl rfl (fun _ => ov_assign rfl rfl) ?_
  refine rq_nil (fun n31 => ?_)
  have hO33 := hOW.drewN n31
  generalize World.drewN w28 n31 = w32 at hO33 ⊢
  refine run_seq ?_
  obtain ⟨i1, hi1⟩ : ∃ i1, i1 = IntKind.i64.wrap (IntKind.u64.wrap (x 0) % IntKind.u64.wrap (N : Int)) := ⟨_, rfl⟩
  obtain ⟨j1, hj1⟩ : ∃ j1, j1 = IntKind.i64.wrap (IntKind.u64.wrap (x 1) % IntKind.u64.wrap (N : Int)) := ⟨_, rfl⟩
  rw [← hi1] at hi0 ⊢
  rw [← hj1] at hj0 ⊢
  obtain ⟨a, ha⟩ : ∃ a, a = A i1.toNat := ⟨_, rfl⟩
  obtain ⟨b, hb⟩ : ∃ b, b = A j1.toNat := ⟨_, rfl⟩
  have hsa : f.Stab a := by rw [ha]; exact hAS.st _ (by omega)
  have hsb : f.Stab b := by rw [hb]; exact hAS.st _ (by omega)
  have hsh := Fair.share_any hV.ok hsa hsb
  have hra : ∀ {B : Nat} {w0 w' : World}, Own B w0 w' W → IAt w'.heap.size w' (RA i1) f.n (fun c => iv (a c)) := fun h => by rw [ha]; exact (hrd (h.sub hsA)).2 i1 hi0.1 hi0.2
  have hrb : ∀ {B : Nat} {w0 w' : World}, Own B w0 w' W → IAt w'.heap.size w' (RA j1) f.n (fun c => iv (b c)) := fun h => by rw [hb]; exact (hrd (h.sub hsA)).2 j1 hj0.1 hj0.2
  refine run_region <| rl_v rfl rfl rfl (ov_loadW rfl Try.underlying30 rfl (by kernel_rfl) rfl hO33 0 (hW0)) ?_
  refine rl_v rfl rfl rfl (ov_move rfl rfl) <| rl_v rfl rfl rfl (ov_move rfl rfl) ?_
  refine rl_call callable_21 rfl rfl rfl rfl rfl rfl (join5_any ga1 ba1 qa1 (RA i1) (RA j1) gc1 bc1 qc1 f.n (RC i1) f.n (RC j1) f a b _ hV (hSW.at hO33) hlg.n hlg.n (hra hO33) (hrb hO33)) (fun e34 w35 hp36 => ?_)
  obtain ⟨vj, nj, cj, c1, je, hje, rfl, hj2, _, hOj⟩ := hp36
  refine ⟨_, rfl, ?_⟩
  have hO37 := hO33.join hOj
  refine rl_v rfl rfl rfl (ov_move rfl rfl) <| rl_v rfl rfl rfl (ov_extract rfl rfl (by rfl)) ?_
  refine rl_v rfl rfl rfl (ov_extract rfl rfl (by rfl)) ?_
  refine rl_v rfl rfl rfl (ov_assign rfl rfl) <| rl_v rfl rfl rfl (ov_assign rfl rfl) <| rl_nil <| run_seq <| run_region <| rl_v rfl rfl rfl (ov_loadW rfl Try.underlying30 rfl (by kernel_rfl) rfl hO37 1 ((show ((_ :: W)[1]? : Option (Option Blk)) = _ from hW0))) ?_
  refine rl_v rfl rfl rfl (ov_move rfl rfl) <| rl_v rfl rfl rfl (ov_move rfl rfl) ?_
  refine rl_call callable_22 rfl rfl rfl rfl rfl rfl (meet5_any ga1 ba1 qa1 (RA i1) (RA j1) gc1 bc1 qc1 f.n (RC i1) f.n (RC j1) f a b _ hV (hSW.at hO37.tail) hlg.n hlg.n (hra hO37.tail) (hrb hO37.tail)) (fun e38 w39 hp40 => ?_)
  obtain ⟨vm, nm, cm, c2, je2, hje2, rfl, hm2, _, hOm⟩ := hp40
  refine ⟨_, rfl, ?_⟩
  have hO41 := hO37.join hOm
  obtain rfl : je = 0 := hje.trans (mgE_0 hsa hsb)
  obtain rfl : je2 = 0 := hje2.trans (mgE_0 hsa hsb)
  obtain ⟨hnj, hrj⟩ := hj2 rfl
  obtain ⟨hnm, hrm⟩ := hm2 rfl
  subst hnj hnm
  refine rl_v rfl rfl rfl (ov_move rfl rfl) <| rl_v rfl rfl rfl (ov_extract rfl rfl (by rfl)) ?_
  refine rl_v rfl rfl rfl (ov_extract rfl rfl (by rfl)) ?_
  refine rl_v rfl rfl rfl (ov_assign rfl rfl) <| rl_v rfl rfl rfl (ov_assign rfl rfl) <| rl_nil <| run_seq <| run_region <| rl_v rfl rfl rfl (ov_move rfl rfl) <| rl_v rfl rfl rfl (ov_move rfl rfl) <| rl_ow rfl (ow_build1 [_, _] rfl rfl rfl rfl rfl Try.underlying22 info_23 (by decide) hO41 rfl rfl) ?_
  rintro _ w42 ⟨bb, rfl, hO43, hs44⟩
  refine rl_v rfl rfl rfl (ov_assign rfl rfl) <| rl_nil <| run_seq <| run_seq <| run_region <| rl_v rfl rfl rfl (ov_move rfl rfl) <| rl_v rfl rfl rfl (ov_neq rfl rfl rfl) <| rl_v rfl rfl rfl (ov_move rfl rfl) ?_
  first | refine rl_noD 69 rfl (fun h => h rfl) ?_ | refine rl_no 69 rfl (fun h => h rfl) ?_
  refine rl_gv rfl rfl rfl rfl rfl (ov_move rfl rfl) <| rl_gv rfl rfl rfl rfl rfl (ov_neq rfl rfl rfl) <| rl_v rfl rfl rfl (ov_pick_f rfl rfl rfl) <| rl_v rfl rfl rfl (ov_move rfl rfl) ?_
  first | refine rl_noD 73 rfl (fun h => h rfl) ?_ | refine rl_no 73 rfl (fun h => h rfl) ?_
  refine rl_gv rfl rfl rfl rfl rfl (ov_move rfl rfl) <| rl_gv rfl rfl rfl rfl rfl (ov_loadW rfl Try.underlying25 rfl (by kernel_rfl) rfl hO43 4 ((show ((_ :: _ :: _ :: W)[4]? : Option (Option Blk)) = _ from hW1))) ?_
  refine rl_gv rfl rfl rfl rfl rfl (ov_move rfl rfl) ?_
  refine rl_gcall callable_23 rfl rfl rfl rfl rfl rfl rfl rfl (refBest_any ga1 ba1 qa1 (some ⟨bb, 0, none⟩) gc1 bc1 qc1 f.m 2 2 f (two5 a b) _ hlg (hSW.at hO43.tail.tail.tail) (by decide) (by decide) (two_tab (hO43.readsI 0 rfl) rfl rfl (hra hO43.tail.tail.tail) (hrb hO43.tail.tail.tail))) (fun e45 w46 hp47 => ?_)
  obtain ⟨v1, vc1, c3, l1, rfl, hr1, hO3, hB1⟩ := hp47
  refine ⟨_, rfl, ?_⟩
  have hO48 := hO43.join hO3
  refine rl_gcall callable_14 rfl rfl rfl rfl rfl rfl rfl rfl (ints5_any vj v1 f.n cj f.n vc1 (f.join a b) l1 _ hlg.n (hrj.reads hO48 3 rfl) (hr1.reads hO48 0 rfl)) (fun e49 w50 hp51 => ?_)
  obtain ⟨⟨y1, rfl, hy1⟩, hbl3⟩ := hp51
  refine ⟨_, rfl, ?_⟩
  have hO52 := hO48.past hbl3
  have hz1 : y1 = true := hy1.2 ⟨rfl, bestL_join hsa hsb hsh hB1⟩
  subst hz1
  refine rl_gv rfl rfl rfl rfl rfl (ov_not rfl rfl) <| rl_v rfl rfl rfl (ov_pick_f rfl rfl rfl) <| rl_v rfl rfl rfl (ov_move rfl rfl) ?_
  first | refine rl_noD 81 rfl (rfl) ?_ | refine rl_no 81 rfl (rfl) ?_
  refine rl_gv rfl rfl rfl rfl rfl (ov_move rfl rfl) <| rl_gv rfl rfl rfl rfl rfl (ov_loadW rfl Try.underlying25 rfl (by kernel_rfl) rfl hO52 5 ((show ((_ :: _ :: _ :: _ :: W)[5]? : Option (Option Blk)) = _ from hW1))) ?_
  refine rl_gv rfl rfl rfl rfl rfl (ov_move rfl rfl) ?_
  refine rl_gcall callable_23 rfl rfl rfl rfl rfl rfl rfl rfl (refWorst_any ga1 ba1 qa1 (some ⟨bb, 0, none⟩) gc1 bc1 qc1 f.m 2 2 f (two5 a b) _ hlg (hSW.at hO52.tail.tail.tail.tail) (by decide) (by decide) (two_tab (hO52.readsI 1 rfl) rfl rfl (hra hO52.tail.tail.tail.tail) (hrb hO52.tail.tail.tail.tail))) (fun e53 w54 hp55 => ?_)
  obtain ⟨v2, vc2, c4, l2, rfl, hr2, hO4, hB2⟩ := hp55
  refine ⟨_, rfl, ?_⟩
  have hO56 := hO52.join hO4
  refine rl_gcall callable_14 rfl rfl rfl rfl rfl rfl rfl rfl (ints5_any vm v2 f.n cm f.n vc2 (f.meet a b) l2 _ hlg.n (hrm.reads hO56 3 rfl) (hr2.reads hO56 0 rfl)) (fun e57 w58 hp59 => ?_)
  obtain ⟨⟨y2, rfl, hy2⟩, hbl4⟩ := hp59
  refine ⟨_, rfl, ?_⟩
  have hO60 := hO56.past hbl4
  have hz2 : y2 = true := hy2.2 ⟨rfl, worstL_meet hsa hsb hsh hB2⟩
  subst hz2
  refine rl_gv rfl rfl rfl rfl rfl (ov_not rfl rfl) <| rl_v rfl rfl rfl (ov_pick_f rfl rfl rfl) <| rl_v rfl rfl rfl (ov_move rfl rfl) ?_
  first | refine rl_noD 89 rfl (rfl) ?_ | refine rl_no 89 rfl (rfl) ?_
  refine rl_gv rfl rfl rfl rfl rfl (ov_loadW rfl Try.underlying25 rfl (by kernel_rfl) rfl hO60 6 ((show ((_ :: _ :: _ :: _ :: _ :: W)[6]? : Option (Option Blk)) = _ from hW1))) ?_
  refine rl_gv rfl rfl rfl rfl rfl (ov_move rfl rfl) ?_
  refine rl_gcall callable_16 rfl rfl rfl rfl rfl rfl rfl rfl (refStable_any ga1 ba1 qa1 vj gc1 bc1 qc1 f.n cj f (f.join a b) _ hV (hSW.at hO60.tail.tail.tail.tail.tail) hlg.n (hrj.reads hO60 4 rfl)) (fun e61 w62 hp63 => ?_)
  obtain ⟨⟨y3, rfl, hy3⟩, hbl5⟩ := hp63
  refine ⟨_, rfl, ?_⟩
  have hO64 := hO60.past hbl5
  have hz3 : y3 = true := hy3.2 ⟨rfl, Fair.join_stab hsa hsb hsh⟩
  subst hz3
  refine rl_gv rfl rfl rfl rfl rfl (ov_not rfl rfl) <| rl_v rfl rfl rfl (ov_pick_f rfl rfl rfl) <| rl_v rfl rfl rfl (ov_move rfl rfl) ?_
  first | refine rl_noD 95 rfl (rfl) ?_ | refine rl_no 95 rfl (rfl) ?_
  refine rl_gv rfl rfl rfl rfl rfl (ov_loadW rfl Try.underlying25 rfl (by kernel_rfl) rfl hO64 6 ((show ((_ :: _ :: _ :: _ :: _ :: W)[6]? : Option (Option Blk)) = _ from hW1))) ?_
  refine rl_gv rfl rfl rfl rfl rfl (ov_move rfl rfl) ?_
  refine rl_gcall callable_16 rfl rfl rfl rfl rfl rfl rfl rfl (refStable_any ga1 ba1 qa1 vm gc1 bc1 qc1 f.n cm f (f.meet a b) _ hV (hSW.at hO64.tail.tail.tail.tail.tail) hlg.n (hrm.reads hO64 3 rfl)) (fun e65 w66 hp67 => ?_)
  obtain ⟨⟨y4, rfl, hy4⟩, hbl6⟩ := hp67
  refine ⟨_, rfl, ?_⟩
  have hO68 := hO64.past hbl6
  have hz4 : y4 = true := hy4.2 ⟨rfl, Fair.meet_stab hsa hsb hsh⟩
  subst hz4
  refine rl_gv rfl rfl rfl rfl rfl (ov_not rfl rfl) <| rl_v rfl rfl rfl (ov_pick_f rfl rfl rfl) <| rl_nil ?_
  first | refine run_cond_dec rfl (fun bad => ?_) (fun bad => ?_) | refine run_cond rfl (fun bad => ?_) (fun bad => ?_)
  ·exfalso; exact Bool.noConfusion bad
  ·have hOz := hO68.tail.tail.tail.tail.tail.nil_cons
   refine run_skip <| run_seq <| run_region <| rl_v rfl rfl rfl (ov_assign rfl rfl) <| rl_nil <| run_seq <| run_region <| rl_v rfl rfl rfl (ov_move rfl rfl) <| rl_v rfl rfl rfl (ov_move rfl rfl) <| rl_v rfl rfl rfl (ov_move rfl rfl) <| rl_v rfl rfl rfl (ov_len rfl Try.underlying23 rfl) <| rl_v rfl rfl rfl (ov_min rfl rfl rfl) <| rl_v rfl rfl rfl (ov_sliceH (min ln 6) (s := 1) rfl Try.underlying23 (by kernel_rfl) rfl rfl (by omega) (by omega)) ?_
   refine rl_ow rfl (ow_appS rfl rfl rfl Try.underlying23 info_3 rfl hOz 0 (IRow.nil 3 (fun _ => iv 0)) rfl rfl rfl (((hOz.iatF hl).take (by omega))) (fun _ => rfl) ⟨by omega, by omega⟩) ?_
   rintro _ w69 ⟨v107, c5, rfl, hO70, hr107, hs71⟩
   obtain ⟨a107, cp107, rfl⟩ := Row.val hr107
   obtain ⟨cn, hcn⟩ : ∃ cn, cn = 0 + min ln 6 := ⟨_, rfl⟩
   have hrc : IRow (.slice a107 cn cp107) 3 cn (fun i => iv (l i)) c5 := by rw [hcn]; exact hr107.congr fun i i0 i1 => by unfold joinF; rw [if_neg (by omega)]; exact congrArg (fun j => iv (l j)) (by omega)
   rw [← hcn]
   refine rl_v rfl rfl rfl (ov_assign rfl rfl) <| rl_nil <| run_seq <| run_region <| rl_v rfl rfl rfl (ov_assign rfl rfl) <| rl_nil <| run_seq <| run_seq <| run_region <| rl_v rfl rfl rfl (ov_move rfl rfl) <| rl_v rfl rfl rfl (ov_len rfl Try.underlying23 rfl) <| rl_v rfl rfl rfl (ov_fieldS rfl Try.underlying25 rfl (fo := 0) rfl (by kernel_rfl) rfl) ?_
   refine rl_v rfl rfl rfl (ov_load rfl Try.underlying22 rfl rfl (by exact hO70.cellL 2 (show ((_ :: W)[2]? : Option (Option Blk)) = _ from hW1) (off := 0) rfl)) ?_
   refine rl_v rfl rfl rfl (ov_len rfl Try.underlying22 rfl) <| rl_v rfl rfl rfl (ov_neq rfl rfl rfl) <| rl_nil <| Run.keep [7, 8, 10, 11, 17, 18, 113] (F' := [(7, _), (8, _), (10, _), (11, _), (17, _), (18, _), (113, _)]) rfl <| run_join1 (fun (wt : Int) => [(18, .int .i64 wt)]) [8, 10, 11, 17] (fun (wt : Int) (w72 : World) => wt = mgE f cn f.n l b ∧ Own w.heap.size w w72 (c5 :: W)) (fun hk73 => ?_) ?_
   ·first | refine run_cond_dec rfl (fun h7 => ?_) (fun h7 => ?_) | refine run_cond rfl (fun h7 => ?_) (fun h7 => ?_)
    ·refine run_region <| rl_v rfl rfl rfl (ov_assign rfl rfl) <| rl_nil ?_
     refine Run.use (hk73 (7) _ ?_) (And.intro (by exact slot_int rfl (by first | omega)) (And.intro rfl (And.intro rfl (And.intro rfl (And.intro rfl trivial)))))
     exact ⟨(mgE_7 (by omega)).symm, hO70⟩
    ·have hcn2 : cn = f.n := by omega
     refine run_seq <| run_region <| rl_v rfl rfl rfl (ov_loadW rfl Try.underlying25 rfl (by kernel_rfl) rfl hO70 2 ((show ((_ :: W)[2]? : Option (Option Blk)) = _ from hW1))) ?_
     refine rl_v rfl rfl rfl (ov_move rfl rfl) ?_
     refine rl_call callable_16 rfl rfl rfl rfl rfl rfl (refStable_any ga1 ba1 qa1 a107 gc1 bc1 qc1 cn cp107 f l _ hV (hSW.at hO70.tail) (by omega) (hrc.reads hO70 0 rfl)) (fun e74 w75 hp76 => ?_)
     obtain ⟨⟨y5, rfl, hy5⟩, hbl7⟩ := hp76
     refine ⟨_, rfl, ?_⟩
     have hO77 := hO70.past hbl7
     refine rl_v rfl rfl rfl (ov_not rfl rfl) <| rl_nil ?_
     first | refine run_cond_dec rfl (fun h8 => ?_) (fun h8 => ?_) | refine run_cond rfl (fun h8 => ?_) (fun h8 => ?_)
     ·refine run_region <| rl_v rfl rfl rfl (ov_assign rfl rfl) <| rl_nil ?_
      refine Run.use (hk73 (4) _ ?_) (And.intro (by exact slot_int rfl (by first | omega)) (And.intro rfl (And.intro rfl (And.intro rfl (And.intro rfl trivial)))))
      exact ⟨by rw [hcn2]; exact (mgE_4 fun hs => by rw [hy5.2 ⟨hcn2, hs⟩] at h8; exact Bool.noConfusion h8).symm, hO77⟩
     ·have hy5t : y5 = true := by cases y5; exact Bool.noConfusion h8; rfl
      refine run_skip ?_
      refine Run.use (hk73 (0) _ ?_) (And.intro (by exact slot_int rfl (by first | omega)) (And.intro rfl (And.intro rfl (And.intro rfl (And.intro rfl trivial)))))
      exact ⟨by rw [hcn2]; exact (mgE_0 (hy5.1 hy5t).2 hsb).symm, hO77⟩
   ·intro wt w72 hJw72
    obtain ⟨hwt, hO6⟩ := hJw72
    show Run _ _ _ _ [(18, _), (8, _), (10, _), (11, _), (17, _)] _ _
    refine run_seq <| run_region <| rl_v rfl rfl rfl (ov_loadW rfl Try.underlying30 rfl (by kernel_rfl) rfl hO6 1 ((show ((_ :: W)[1]? : Option (Option Blk)) = _ from hW0))) ?_
    refine rl_v rfl rfl rfl (ov_move rfl rfl) <| rl_v rfl rfl rfl (ov_move rfl rfl) ?_
    refine rl_call callable_21 rfl rfl rfl rfl rfl rfl (join5_any ga1 ba1 qa1 a107 (RA j1) gc1 bc1 qc1 cn cp107 f.n (RC j1) f l b _ hV (hSW.at hO6.tail) (by omega) hlg.n (hrc.reads hO6 0 rfl) (hrb hO6.tail)) (fun e78 w79 hp80 => ?_)
    obtain ⟨v3, n3, cp3, c6, je3, hje3, rfl, _, hj32, hO7⟩ := hp80
    refine ⟨_, rfl, ?_⟩
    have hO81 := hO6.join hO7
    refine rl_v rfl rfl rfl (ov_move rfl rfl) <| rl_v rfl rfl rfl (ov_extract rfl rfl (by rfl)) ?_
    refine rl_v rfl rfl rfl (ov_extract rfl rfl (by rfl)) ?_
    refine rl_v rfl rfl rfl (ov_assign rfl rfl) <| rl_v rfl rfl rfl (ov_assign rfl rfl) <| rl_nil <| run_seq <| run_region <| rl_v rfl rfl rfl (ov_loadW rfl Try.underlying30 rfl (by kernel_rfl) rfl hO81 2 ((show ((_ :: _ :: W)[2]? : Option (Option Blk)) = _ from hW0))) ?_
    refine rl_v rfl rfl rfl (ov_move rfl rfl) <| rl_v rfl rfl rfl (ov_move rfl rfl) ?_
    refine rl_call callable_22 rfl rfl rfl rfl rfl rfl (meet5_any ga1 ba1 qa1 (RA i1) a107 gc1 bc1 qc1 f.n (RC i1) cn cp107 f a l _ hV (hSW.at hO81.tail.tail) hlg.n (by omega) (hra hO81.tail.tail) (hrc.reads hO81 1 rfl)) (fun e82 w83 hp84 => ?_)
    obtain ⟨v4, n4, cp4, c7, je4, hje4, rfl, _, hj42, hO8⟩ := hp84
    refine ⟨_, rfl, ?_⟩
    have hO85 := hO81.join hO8
    have e3 : je3 = wt := hje3.trans hwt.symm
    have e4 : je4 = wt := hje4.trans ((mgE_swap hsa hsb).symm.trans hwt.symm)
    rw [e3] at hj32
    rw [e4] at hj42
    refine rl_v rfl rfl rfl (ov_move rfl rfl) <| rl_v rfl rfl rfl (ov_extract rfl rfl (by rfl)) ?_
    refine rl_v rfl rfl rfl (ov_extract rfl rfl (by rfl)) ?_
    refine rl_v rfl rfl rfl (ov_assign rfl rfl) <| rl_v rfl rfl rfl (ov_assign rfl rfl) <| rl_nil <| run_seq <| run_region <| rl_v rfl rfl rfl (ov_move rfl rfl) <| rl_v rfl rfl rfl (ov_move rfl rfl) <| rl_v rfl rfl rfl (ov_eql rfl rfl rfl) <| rl_v rfl rfl rfl (ov_move rfl rfl) <| rl_known 135 rfl (e3) <| rl_gv rfl rfl rfl rfl rfl (ov_move rfl rfl) <| rl_gv rfl rfl rfl rfl rfl (ov_move rfl rfl) <| rl_gv rfl rfl rfl rfl rfl (ov_eql rfl rfl rfl) <| rl_v rfl rfl rfl (ov_pick_t rfl rfl rfl) <| rl_v rfl rfl rfl (ov_move rfl rfl) <| rl_known 140 rfl (e4) <| rl_gv rfl rfl rfl rfl rfl (ov_move rfl rfl) <| rl_gv rfl rfl rfl rfl rfl (ov_eql rfl rfl rfl) <| rl_gv rfl rfl rfl rfl rfl (ov_move rfl rfl) ?_
    first | refine rl_split_dec 143 rfl (fun q1 => ?_) (fun q1 => ?_) | refine rl_split 143 rfl (fun q1 => ?_) (fun q1 => ?_)
    ·refine rl_gskip rfl rfl rfl rfl rfl rfl <| rl_gskip rfl rfl rfl rfl rfl rfl <| rl_gskip rfl rfl rfl rfl rfl rfl <| rl_gskip rfl rfl rfl rfl rfl rfl <| rl_gundef rfl rfl rfl rfl rfl <| rl_gundef rfl rfl rfl rfl rfl <| rl_gundef rfl rfl rfl rfl rfl <| rl_gskip rfl rfl rfl rfl rfl rfl <| rl_gv rfl rfl rfl rfl rfl (ov_pick_t rfl rfl rfl) <| rl_v rfl rfl rfl (ov_pick_t rfl rfl rfl) <| rl_v rfl rfl rfl (ov_move rfl rfl) ?_
     refine rl_gcall callable_17 rfl rfl rfl rfl rfl rfl rfl rfl (awake5_any sortRows_all _) (fun e87 w88 hp89 => ?_)
     obtain ⟨rfl, hb9⟩ := hp89
     refine ⟨_, rfl, ?_⟩
     have hO90 := hO85.past hb9
     refine rl_v rfl rfl rfl (ov_pick_t rfl rfl rfl) <| rl_v rfl rfl rfl (ov_assign rfl rfl) <| rl_nil <| run_ret Try.func5 (res1 Try.results5 rfl) ?_
     exact ⟨rfl, hO90.below⟩
    ·refine rl_gv rfl rfl rfl rfl rfl (ov_move rfl rfl) <| rl_gv rfl rfl rfl rfl rfl (ov_len rfl Try.underlying23 rfl) <| rl_gv rfl rfl rfl rfl rfl (ov_eql rfl rfl rfl) <| rl_gv rfl rfl rfl rfl rfl (ov_move rfl rfl) <| rl_known 147 rfl ((by have := hj32 q1; omega)) ?_
     refine rl_gv rfl rfl rfl rfl rfl (ov_move rfl rfl) <| rl_gv rfl rfl rfl rfl rfl (ov_len rfl Try.underlying23 rfl) <| rl_gv rfl rfl rfl rfl rfl (ov_eql rfl rfl rfl) <| rl_gv rfl rfl rfl rfl rfl (ov_pick_t rfl rfl rfl) <| rl_gv rfl rfl rfl rfl rfl (ov_pick_f rfl rfl rfl) <| rl_v rfl rfl rfl (ov_pick_t rfl rfl rfl) <| rl_v rfl rfl rfl (ov_move rfl rfl) <| rl_known 154 rfl ((by have := hj42 q1; omega)) ?_
     refine rl_gcall callable_17 rfl rfl rfl rfl rfl rfl rfl rfl (awake5_any sortRows_all _) (fun e91 w92 hp93 => ?_)
     obtain ⟨rfl, hb9⟩ := hp93
     refine ⟨_, rfl, ?_⟩
     have hO94 := hO85.past hb9
     refine rl_v rfl rfl rfl (ov_pick_t rfl rfl rfl) <| rl_v rfl rfl rfl (ov_assign rfl rfl) <| rl_nil <| run_ret Try.func5 (res1 Try.results5 rfl) ?_
     exact ⟨rfl, hO94.below⟩
end Go.Proofs.Ytlldeifbfpmbaaa
