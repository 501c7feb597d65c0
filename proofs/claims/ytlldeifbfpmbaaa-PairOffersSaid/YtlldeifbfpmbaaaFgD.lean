import Derived.Test.YtlldeifbfpmbaaaFgC
import Derived.Test.YtlldeifbfpmbaaaFcG
set_option maxRecDepth 100000
namespace Go.Proofs.Ytlldeifbfpmbaaa
open Go.RowKit Go.Proofs Go.MapKept
def FSrc (H : List (Option Blk)) (ga ba qa : Option Addr) (f : Fair) : Prop := ∀ (B : Nat) (w0 w : World), Own B w0 w H → FAg w.heap.size w ga ba qa f f.m
theorem FSrc.sub {N M : List (Option Blk)} {ga ba qa : Option Addr} {f : Fair} (h : FSrc N ga ba qa f) (hs : N.Sublist M) : FSrc M ga ba qa f := fun B w0 w hO => h B w0 w (hO.sub hs)
theorem FSrc.cons {N : List (Option Blk)} {x : Option Blk} {ga ba qa : Option Addr} {f : Fair} (h : FSrc N ga ba qa f) : FSrc (x :: N) ga ba qa f := h.sub (.cons _ (.refl _))
theorem FSrc.at {H : List (Option Blk)} {ga ba qa : Option Addr} {f : Fair} (h : FSrc H ga ba qa f) {B : Nat} {w0 w : World} (hO : Own B w0 w H) : FAg w.heap.size w ga ba qa f f.m := h B w0 w hO
theorem FOwn.src {f : Fair} {ga ba qa : Option Addr} {gc bc qc : Nat} {Hg Hb : List (Option Blk)} {cq : Option Blk} (h : FOwn f ga ba qa gc bc qc Hg Hb cq) : FSrc (cq :: (Hg ++ Hb)) ga ba qa f := fun B w0 w hO =>
 ⟨h.g.reads hO.tail, h.b.reads (hO.tail.perm List.perm_append_comm), h.q.reads hO 0 rfl⟩
section
variable (ga ba qa : Option Addr) (n gc m bc nq qc : Nat) (GL BL : Int → Nat) (GE BE : Int → Int → Int) (q : Int → Int) (w : World)
  (hG : RTab w.heap.size w ga n GL GE) (hB : RTab w.heap.size w ba m BL BE) (hQ : IAt w.heap.size w qa nq (fun i => iv (q i)))
include hG hB hQ
theorem offers5_any : Calls Try.prog 3 #[.agg (fairL ga ba qa n gc m bc nq qc).toArray] w fun e w' => e = .returned (.bool true) ∧ Below w.heap.size w w' := by
 refine calls_of_run (F := [(0, _)]) Try.func3 rfl Try.ntmps3 rfl rfl ?_
 have hO0 := Own.init w
 refine run_seq <| run_region <| rl_ow rfl (ow_box _ rfl rfl rfl rfl rfl hO0) ?_
 rintro _ w1 ⟨b1, rfl, hO2, hs3⟩
 refine rl_v rfl rfl rfl (ov_assign rfl rfl) <| rl_nil <| run_seq <| run_region <| rl_v rfl rfl rfl (ov_loadW rfl Try.underlying25 rfl (by kernel_rfl) rfl hO2 0 rfl) ?_
 refine rl_call callable_10 rfl rfl rfl rfl rfl rfl (tame5_any ga ba qa n gc m bc nq qc 12 10 GL BL GE BE q _ (by decide) (by decide) (hO2.rtab hG) (hO2.rtab hB) (hO2.iatF hQ)) (fun e4 w5 hp6 => ?_)
 obtain ⟨f, ga1, ba1, qa1, gc1, bc1, qc1, Hg, Hb, cq, rfl, hfn, hfm, hF, hO1⟩ := hp6
 refine ⟨_, rfl, ?_⟩
 have hO7 := hO2.join hO1
 have hV := hF.ok
 have hn1 := hV.sm.n
 refine rl_ow rfl (ow_alloc _ rfl rfl rfl zero_25 rfl hO7) ?_
 rintro _ w8 ⟨b3, rfl, hO9, hs10⟩
 refine rl_ow rfl (ow_storeW rfl rfl (by kernel_rfl) hO9 0 rfl rfl (by rfl) rfl (by rfl)) ?_
 rintro _ w11 ⟨rfl, hO12, hs13⟩
 have hS0 : FSrc (some (lch b3 25 (fairL ga1 ba1 qa1 f.n gc1 f.m bc1 f.m qc1)) :: ((cq :: (Hg ++ Hb)) ++ [some (lch b1 25 (fairL ga ba qa n gc m bc nq qc))])) ga1 ba1 qa1 f := (hF.src.sub (List.sublist_append_left _ _)).cons
 refine rl_nil <| run_seq <| run_region <| rl_v rfl rfl rfl (ov_loadW rfl Try.underlying25 rfl (by kernel_rfl) rfl hO12 0 rfl) ?_
 refine rl_call callable_12 rfl rfl rfl rfl rfl rfl (give5_any ga1 ba1 qa1 f.n gc1 f.m bc1 f.m qc1 _) (fun e14 w15 hp16 => ?_)
 obtain ⟨rfl, hbl1⟩ := hp16
 refine ⟨_, rfl, ?_⟩
 have hO17 := hO12.past hbl1
 refine rl_call callable_11 rfl rfl rfl rfl rfl rfl (growers_any ga1 ba1 qa1 gc1 bc1 qc1 f _ hV (hS0.at hO17)) (fun e18 w19 hp20 => ?_)
 obtain ⟨oa, l, rfl, hO2, hbest⟩ := hp20
 refine ⟨_, rfl, ?_⟩
 have hO21 := hO17.join hO2
 refine rl_v rfl rfl rfl (ov_move rfl rfl) <| rl_v rfl rfl rfl (ov_extract rfl rfl (by rfl)) ?_
 refine rl_v rfl rfl rfl (ov_extract rfl rfl (by rfl)) ?_
 refine rl_v rfl rfl rfl (ov_assign rfl rfl) <| rl_v rfl rfl rfl (ov_assign rfl rfl) <| rl_nil <| run_seq <| run_region <| rl_v rfl rfl rfl (ov_loadW rfl Try.underlying25 rfl (by kernel_rfl) rfl hO21 1 rfl) ?_
 refine rl_call callable_12 rfl rfl rfl rfl rfl rfl (give5_any ga1 ba1 qa1 f.n gc1 f.m bc1 f.m qc1 _) (fun e22 w23 hp24 => ?_)
 obtain ⟨rfl, hbl2⟩ := hp24
 refine ⟨_, rfl, ?_⟩
 have hO25 := hO21.past hbl2
 refine rl_call callable_13 rfl rfl rfl rfl rfl rfl (brewers_any ga1 ba1 qa1 gc1 bc1 qc1 f _ hV (hS0.cons.at hO25)) (fun e26 w27 hp28 => ?_)
 obtain ⟨oc, l2, nb, rfl, hO3, hA, hD⟩ := hp28
 refine ⟨_, rfl, ?_⟩
 have hO29 := hO25.join hO3
 refine rl_v rfl rfl rfl (ov_move rfl rfl) <| rl_v rfl rfl rfl (ov_extract rfl rfl (by rfl)) ?_
 refine rl_v rfl rfl rfl (ov_extract rfl rfl (by rfl)) ?_
 refine rl_v rfl rfl rfl (ov_assign rfl rfl) <| rl_v rfl rfl rfl (ov_assign rfl rfl) <| rl_nil <| run_seq <| run_region <| rl_v rfl rfl rfl (ov_move rfl rfl) <| rl_v rfl rfl rfl (ov_eql rfl rfl rfl) <| rl_v rfl rfl rfl (ov_move rfl rfl) <| rl_known 24 rfl (rfl) <| rl_gv rfl rfl rfl rfl rfl (ov_move rfl rfl) <| rl_gv rfl rfl rfl rfl rfl (ov_eql rfl rfl rfl) <| rl_v rfl rfl rfl (ov_pick_t rfl rfl rfl) <| rl_v rfl rfl rfl (ov_move rfl rfl) <| rl_known 28 rfl (rfl) <| rl_gv rfl rfl rfl rfl rfl (ov_move rfl rfl) <| rl_gv rfl rfl rfl rfl rfl (ov_loadW rfl Try.underlying25 rfl (by kernel_rfl) rfl hO29 2 rfl) ?_
 refine rl_gcall callable_15 rfl rfl rfl rfl rfl rfl rfl rfl (refGrowers_any ga1 ba1 qa1 gc1 bc1 qc1 f _ hV (hS0.cons.cons.at hO29)) (fun e30 w31 hp32 => ?_)
 obtain ⟨od, l3, rfl, hO4, hbest3⟩ := hp32
 refine ⟨_, rfl, ?_⟩
 have hO33 := hO29.join hO4
 refine rl_gcall callable_14 rfl rfl rfl rfl rfl rfl rfl rfl (ints5_any (some ⟨oa, 0, none⟩) (some ⟨od, 0, none⟩) f.n f.n f.n f.n l l3 _ (by omega) (hO33.readsI 2 rfl) (hO33.readsI 0 rfl)) (fun e34 w35 hp36 => ?_)
 obtain ⟨⟨y1, rfl, hy1⟩, hbl3⟩ := hp36
 refine ⟨_, rfl, ?_⟩
 have hO37 := hO33.past hbl3
 have hz1 : y1 = true := hy1.2 ⟨rfl, fun i i0 i1 => hbest.uniq hbest3 i0 i1⟩
 subst hz1
 refine rl_v rfl rfl rfl (ov_pick_t rfl rfl rfl) <| rl_v rfl rfl rfl (ov_move rfl rfl) ?_
 first | refine rl_yesD 34 rfl (rfl) ?_ | refine rl_yes 34 rfl (rfl) ?_
 refine rl_gv rfl rfl rfl rfl rfl (ov_loadW rfl Try.underlying25 rfl (by kernel_rfl) rfl hO37 3 rfl) ?_
 refine rl_gv rfl rfl rfl rfl rfl (ov_move rfl rfl) ?_
 refine rl_gcall callable_16 rfl rfl rfl rfl rfl rfl rfl rfl (refStable_any ga1 ba1 qa1 (some ⟨oa, 0, none⟩) gc1 bc1 qc1 f.n f.n f l _ hV (hS0.cons.cons.cons.at hO37) (by omega) (hO37.readsI 2 rfl)) (fun e38 w39 hp40 => ?_)
 obtain ⟨⟨y2, rfl, hy2⟩, hbl4⟩ := hp40
 refine ⟨_, rfl, ?_⟩
 have hO41 := hO37.past hbl4
 have hz2 : y2 = true := hy2.2 ⟨rfl, hbest.stab⟩
 subst hz2
 refine rl_v rfl rfl rfl (ov_pick_t rfl rfl rfl) <| rl_v rfl rfl rfl (ov_move rfl rfl) ?_
 first | refine rl_yesD 39 rfl (rfl) ?_ | refine rl_yes 39 rfl (rfl) ?_
 refine rl_gv rfl rfl rfl rfl rfl (ov_loadW rfl Try.underlying25 rfl (by kernel_rfl) rfl hO41 3 rfl) ?_
 refine rl_gv rfl rfl rfl rfl rfl (ov_move rfl rfl) ?_
 refine rl_gcall callable_16 rfl rfl rfl rfl rfl rfl rfl rfl (refStable_any ga1 ba1 qa1 (some ⟨oc, 0, none⟩) gc1 bc1 qc1 f.n f.n f l2 _ hV (hS0.cons.cons.cons.at hO41) (by omega) (hO41.readsI 1 rfl)) (fun e42 w43 hp44 => ?_)
 obtain ⟨⟨y3, rfl, hy3⟩, hbl5⟩ := hp44
 refine ⟨_, rfl, ?_⟩
 have hO45 := hO41.past hbl5
 have hz3 : y3 = true := hy3.2 ⟨rfl, hA.stab hD⟩
 subst hz3
 refine rl_v rfl rfl rfl (ov_pick_t rfl rfl rfl) <| rl_v rfl rfl rfl (ov_move rfl rfl) ?_
 first | refine rl_yesD 44 rfl (rfl) ?_ | refine rl_yes 44 rfl (rfl) ?_
 refine rl_gcall callable_17 rfl rfl rfl rfl rfl rfl rfl rfl (awake5_any sortRows_all _) (fun e46 w47 hp48 => ?_)
 obtain ⟨rfl, hbl6⟩ := hp48
 refine ⟨_, rfl, ?_⟩
 have hO49 := hO45.past hbl6
 refine rl_v rfl rfl rfl (ov_pick_t rfl rfl rfl) <| rl_v rfl rfl rfl (ov_assign rfl rfl) <| rl_nil <| run_ret Try.func3 (res1 Try.results3 rfl) ?_
 exact ⟨rfl, hO49.below⟩
end
end Go.Proofs.Ytlldeifbfpmbaaa
