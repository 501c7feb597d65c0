import Derived.Test.YtlldeifbfpmbaaaFjA
import Derived.Test.YtlldeifbfpmbaaaFgD
set_option maxRecDepth 100000
namespace Go.Proofs.Ytlldeifbfpmbaaa
open Go.RowKit Go.Proofs Go.MapKept
theorem SRow.cellsE {ao : Option Addr} {m cap b s n : Nat} {E : TypeId} {G : Int → List Value} {c : Option Blk} {B : Nat} {w0 w : World} {H : List (Option Blk)} (h : SRow (.slice ao m cap) E s n G c) (ho : Own B w0 w H) (k : Nat) (hk : H[k]? = some c) (ha : ao = some ⟨b, 0, none⟩) :
  ∀ i : Int, 0 ≤ i → i < n → ∀ fo, fo < s → w.cell? ⟨b, 0 + i.toNat * s + fo, none⟩ = some ((G i).getD fo undef) := fun i i0 i1 => by
 obtain ⟨b', e, r⟩ := h.openS ho k hk
 have := e (by omega)
 rw [ha] at this
 cases this
 exact r i i0 i1
theorem jd_cases (f : Fair) (hV : Valid5 f f.m) (ln : Nat) (l : Int → Int) : (ln ≠ f.n → jdE f f.m ln l = 7) ∧ (ln = f.n → ¬ f.Poss l → jdE f f.m ln l = 4) ∧ (ln = f.n → f.Poss l → jdE f f.m ln l = 0) := by
 have h0 := chkF_0.2 hV
 refine ⟨fun h => ?_, fun h h2 => ?_, fun h h2 => jdE_0.2 ⟨hV, h, h2⟩⟩
 ·unfold jdE; rw [if_neg (fun e => e h0), if_pos h]
 ·unfold jdE; rw [if_neg (fun e => e h0), if_neg (fun e => e h), if_pos h2]
set_option maxHeartbeats 4000000 in
theorem judges5_any (ga ba qa la : Option Addr) (n gc m bc nq qc ln lc : Nat) (GL BL : Int → Nat) (GE BE : Int → Int → Int) (q l : Int → Int) (w : World)
  (hG : RTab w.heap.size w ga n GL GE) (hB : RTab w.heap.size w ba m BL BE) (hQ : IAt w.heap.size w qa nq (fun i => iv (q i))) (hlc : ln ≤ lc) (hl : IAt w.heap.size w la ln (fun i => iv (l i))) :
  Calls Try.prog 9 #[.agg (fairL ga ba qa n gc m bc nq qc).toArray, .slice la ln lc] w fun e w' => e = .returned (.bool true) ∧ Below w.heap.size w w' := by
 refine calls_of_run (F := [(0, _), (1, _)]) Try.func9 rfl Try.ntmps9 rfl rfl ?_
 have hO0 := Own.init w
 refine run_seq <| run_region <| rl_ow rfl (ow_box _ rfl rfl rfl rfl rfl hO0) ?_
 rintro _ w1 ⟨b1, rfl, hO2, hs3⟩
 refine rl_v rfl rfl rfl (ov_assign rfl rfl) <| rl_nil <| run_seq <| run_region <| rl_v rfl rfl rfl (ov_loadW rfl Try.underlying25 rfl (by kernel_rfl) rfl hO2 0 rfl) ?_
 refine rl_call callable_10 rfl rfl rfl rfl rfl rfl (tame5_any ga ba qa n gc m bc nq qc 6 5 GL BL GE BE q _ (by decide) (by decide) (hO2.rtab hG) (hO2.rtab hB) (hO2.iatF hQ)) (fun e4 w5 hp6 => ?_)
 obtain ⟨f, ga1, ba1, qa1, gc1, bc1, qc1, Hg, Hb, cq, rfl, hfn, hfm, hF, hO1⟩ := hp6
 refine ⟨_, rfl, ?_⟩
 have hO7 := hO2.join hO1
 have hV := hF.ok
 have hlg := hV.lg
 have hn1 := hV.sm.n
 have hm1 := hV.sm.m
 refine rl_ow rfl (ow_alloc _ rfl rfl rfl zero_25 rfl hO7) ?_
 rintro _ w8 ⟨b5, rfl, hO9, hs10⟩
 refine rl_ow rfl (ow_storeW rfl rfl (by kernel_rfl) hO9 0 rfl rfl (by rfl) rfl (by rfl)) ?_
 rintro _ w11 ⟨rfl, hO12, hs13⟩
 refine rl_nil <| run_seq <| run_region <| rl_v rfl rfl rfl (ov_loadW rfl Try.underlying25 rfl (by kernel_rfl) rfl hO12 0 rfl) ?_
 refine rl_call callable_12 rfl rfl rfl rfl rfl rfl (give5_any ga1 ba1 qa1 f.n gc1 f.m bc1 f.m qc1 _) (fun e14 w15 hp16 => ?_)
 obtain ⟨rfl, hbl1⟩ := hp16
 refine ⟨_, rfl, ?_⟩
 have hO17 := hO12.past hbl1
 refine rl_ow rfl (ow_alloc _ rfl rfl rfl zero_30 rfl hO17) ?_
 rintro _ w18 ⟨b6, rfl, hO19, hs20⟩
 refine rl_ow rfl (ow_storeW rfl rfl (by kernel_rfl) hO19 0 rfl rfl (by rfl) rfl (by rfl)) ?_
 rintro _ w21 ⟨rfl, hO22, hs23⟩
 obtain ⟨W, hW⟩ : ∃ W, W = some (lch b6 30 (fairL ga1 ba1 qa1 f.n gc1 f.m bc1 f.m qc1)) :: some (lch b5 25 (fairL ga1 ba1 qa1 f.n gc1 f.m bc1 f.m qc1)) :: ((cq :: (Hg ++ Hb)) ++ [some (lch b1 25 (fairL ga ba qa n gc m bc nq qc))]) := ⟨_, rfl⟩
 have hSW : FSrc W ga1 ba1 qa1 f := by rw [hW]; exact (hF.src.sub (List.sublist_append_left _ _)).cons.cons
 have hW0 : W[0]? = some (some (lch b6 30 (fairL ga1 ba1 qa1 f.n gc1 f.m bc1 f.m qc1))) := by rw [hW]; rfl
 have hW1 : W[1]? = some (some (lch b5 25 (fairL ga1 ba1 qa1 f.n gc1 f.m bc1 f.m qc1))) := by rw [hW]; rfl
 have hC0 : ∀ {x : Option Blk}, (x :: W)[1]? = some (some (lch b6 30 (fairL ga1 ba1 qa1 f.n gc1 f.m bc1 f.m qc1))) := hW0
 have hC1 : ∀ {x : Option Blk}, (x :: W)[2]? = some (some (lch b5 25 (fairL ga1 ba1 qa1 f.n gc1 f.m bc1 f.m qc1))) := hW1
 have hD0 : ∀ {x y : Option Blk}, (x :: y :: W)[2]? = some (some (lch b6 30 (fairL ga1 ba1 qa1 f.n gc1 f.m bc1 f.m qc1))) := hW0
 have hD1 : ∀ {x y : Option Blk}, (x :: y :: W)[3]? = some (some (lch b5 25 (fairL ga1 ba1 qa1 f.n gc1 f.m bc1 f.m qc1))) := hW1
 have hOW : Own w.heap.size w w21 (none :: W) := by rw [hW]; exact hO22.nil_cons
 clear hW
 refine rl_nil <| run_seq <| run_region <| rl_v rfl rfl rfl (ov_assign rfl rfl) <| rl_nil <| run_seq <| run_region <| rl_v rfl rfl rfl (ov_move rfl rfl) <| rl_v rfl rfl rfl (ov_move rfl rfl) <| rl_v rfl rfl rfl (ov_move rfl rfl) <| rl_v rfl rfl rfl (ov_len rfl Try.underlying23 rfl) <| rl_v rfl rfl rfl (ov_min rfl rfl rfl) <| rl_v rfl rfl rfl (ov_sliceH (min ln 8) (s := 1) rfl Try.underlying23 (by kernel_rfl) rfl rfl (by omega) (by omega)) ?_
 refine rl_ow rfl (ow_appS rfl rfl rfl Try.underlying23 info_3 rfl hOW 0 (IRow.nil 3 (fun _ => iv 0)) rfl rfl rfl (((hOW.iatF hl).take (by omega))) (fun _ => rfl) ⟨by omega, by omega⟩) ?_
 rintro _ w24 ⟨v30, c30, rfl, hO25, hr30, hs26⟩
 obtain ⟨a30, cp30, rfl⟩ := Row.val hr30
 have hr0 : IRow (.slice a30 (0 + min ln 8) cp30) 3 (0 + min ln 8) (fun i => iv (l i)) c30 := hr30.congr fun i i0 i1 => by unfold joinF; rw [if_neg (by omega)]; exact congrArg (fun j => iv (l j)) (by omega)
 refine rl_v rfl rfl rfl (ov_assign rfl rfl) <| rl_nil <| run_seq <| run_seq <| run_region <| rl_v rfl rfl rfl (ov_assign rfl rfl) <| rl_nil <| run_block <| Run.keep [5, 6, 7, 8] (F' := [(5, _), (6, _), (7, _), (8, _)]) rfl <| run_loop4 (fun (k : Int) (am : Option Addr) (lm : Nat) (cm : Nat) => [(8, .int .i64 k), (7, .slice am lm cm)]) [5, 6] (fun (k : Int) (am : Option Addr) (lm : Nat) (cm : Nat) (w27 : World) => 0 ≤ k ∧ k ≤ 3 ∧ lm ≤ 100 ∧ ∃ (M : Int → Int) (c : Option Blk), IRow (.slice am lm cm) 3 lm (fun i => iv (M i)) c ∧ Own w.heap.size w w27 (c :: W)) (fun (k : Int) (am : Option Addr) (lm : Nat) (cm : Nat) => (3 - k).toNat) (0) (a30) (0 + min ln 8) (cp30) ?_ (And.intro (by exact slot_int rfl (by first | omega)) (And.intro rfl (And.intro rfl (And.intro rfl trivial)))) ?_
 ·exact ⟨by omega, by omega, by omega, l, c30, hr0, hO25⟩
 intro k am lm cm w27 hIw27 ih28
 obtain ⟨hk0, hk1, hlm, M, c, hr, hO⟩ := hIw27
 show Run _ _ _ _ [(8, _), (7, _), (5, _), (6, _)] _ _
 refine run_seq <| run_seq <| run_region <| rl_v rfl rfl rfl (ov_move rfl rfl) <| rl_v rfl rfl rfl (ov_lss rfl rfl rfl) <| rl_nil ?_
 first | refine run_cond_dec rfl (fun h1 => ?_) (fun h1 => ?_) | refine run_cond rfl (fun h1 => ?_) (fun h1 => ?_)
 ·refine run_skip <| run_seq <| run_block <| run_seq <| run_region <| rl_v rfl rfl rfl (ov_loadW rfl Try.underlying25 rfl (by kernel_rfl) rfl hO 2 (hC1)) ?_
  refine rl_v rfl rfl rfl (ov_move rfl rfl) ?_
  refine rl_call callable_40 rfl rfl rfl rfl rfl rfl (callsDB (refPossible_any ga1 ba1 qa1 am gc1 bc1 qc1 lm cm f M _ hV (hSW.at hO.tail) (by omega) (hr.reads hO 0 rfl))) (fun e29 w30 hp31 => ?_)
  obtain ⟨rfl, hb1⟩ := hp31
  refine ⟨_, rfl, ?_⟩
  have hO32 := hO.past hb1
  refine rl_v rfl rfl rfl (ov_assign rfl rfl) <| rl_nil <| run_seq <| run_seq <| run_class (Cl5 w.heap.size w (c :: W)) (⟨hO32.drew⟩) mixed (by kernel_rfl) ?_
  refine rk_v rfl rfl rfl (fun wq hQ => ov_loadW rfl Try.underlying30 rfl (by kernel_rfl) rfl (hQ.own) 1 (hC0)) ?_
  refine rk_v rfl rfl rfl (fun wq hQ => ov_move rfl rfl) ?_
  refine rk_call callable_41 rfl rfl rfl rfl rfl rfl (fun wq hQ => (possibleV_dec ga1 ba1 qa1 am gc1 bc1 qc1 f.m lm cm f M _ hlg (hSW.at (hQ.own).tail) (by omega) (hr.reads (hQ.own) 0 rfl) hV).mono fun _ _ h => ⟨h.1, ⟨(hQ.own).past h.2⟩⟩) ?_
  refine rk_v rfl rfl rfl (fun wq hQ => ov_move rfl rfl) ?_
  refine rk_v rfl rfl rfl (fun wq hQ => ov_neqB5 rfl Try.underlying4 rfl rfl) ?_
  refine rk_v rfl rfl rfl (fun wq hQ => ov_move rfl rfl) ?_
  first | refine rk_noD 43 rfl (fun h => h rfl) ?_ | refine rk_no 43 rfl (fun h => h rfl) ?_
  refine rk_gv rfl rfl rfl rfl rfl (fun wq hQ => ov_loadW rfl Try.underlying30 rfl (by kernel_rfl) rfl (hQ.own) 1 (hC0)) ?_
  refine rk_gv rfl rfl rfl rfl rfl (fun wq hQ => ov_move rfl rfl) ?_
  refine rk_gcall callable_42 rfl rfl rfl rfl rfl rfl rfl rfl (fun wq hQ => (stableV_dec ga1 ba1 qa1 am gc1 bc1 qc1 f.m lm cm f M _ hlg (hSW.at (hQ.own).tail) (by omega) (hr.reads (hQ.own) 0 rfl) hV).mono fun _ _ h => ⟨h.1, ⟨(hQ.own).past h.2⟩⟩) ?_
  refine rk_gv rfl rfl rfl rfl rfl (fun wq hQ => ov_loadW rfl Try.underlying25 rfl (by kernel_rfl) rfl (hQ.own) 2 (hC1)) ?_
  refine rk_gv rfl rfl rfl rfl rfl (fun wq hQ => ov_move rfl rfl) ?_
  refine rk_gcall callable_16 rfl rfl rfl rfl rfl rfl rfl rfl (fun wq hQ => (callsDB (refStable_any ga1 ba1 qa1 am gc1 bc1 qc1 lm cm f M _ hV (hSW.at (hQ.own).tail) (by omega) (hr.reads (hQ.own) 0 rfl))).mono fun _ _ h => ⟨h.1, ⟨(hQ.own).past h.2⟩⟩) ?_
  refine rk_gv rfl rfl rfl rfl rfl (fun wq hQ => ov_neqB5 rfl Try.underlying4 rfl rfl) ?_
  refine rk_v rfl rfl rfl (fun wq hQ => ov_pick_f rfl rfl rfl) ?_
  refine rk_nil (fun w42 hQ => ?_)
  first | refine run_cond_dec rfl (fun bad => ?_) (fun bad => ?_) | refine run_cond rfl (fun bad => ?_) (fun bad => ?_)
  ·exfalso; exact bad rfl
  ·refine run_skip <| run_seq <| run_region <| rl_v rfl rfl rfl (ov_loadW rfl Try.underlying30 rfl (by kernel_rfl) rfl (hQ.own) 1 (hC0)) ?_
   refine rl_v rfl rfl rfl (ov_move rfl rfl) ?_
   refine rl_call callable_43 rfl rfl rfl rfl rfl rfl (blocksV_any ga1 ba1 qa1 am gc1 bc1 qc1 f.m lm cm f M _ hlg (hSW.at (hQ.own).tail) (by omega) (hr.reads (hQ.own) 0 rfl)) (fun e43 w44 hp45 => ?_)
   obtain ⟨aL, cL, c2, je, Lb, hje, hLb, rfl, hrL, hO2⟩ := hp45
   refine ⟨_, rfl, ?_⟩
   have hO46 := (hQ.own).join hO2
   refine rl_v rfl rfl rfl (ov_move rfl rfl) <| rl_v rfl rfl rfl (ov_extract rfl rfl (by rfl)) ?_
   refine rl_v rfl rfl rfl (ov_extract rfl rfl (by rfl)) ?_
   refine rl_v rfl rfl rfl (ov_assign rfl rfl) <| rl_v rfl rfl rfl (ov_assign rfl rfl) <| rl_nil <| run_seq <| run_region <| rl_v rfl rfl rfl (ov_loadW rfl Try.underlying30 rfl (by kernel_rfl) rfl hO46 2 (hD0)) ?_
   refine rl_v rfl rfl rfl (ov_move rfl rfl) ?_
   refine rl_call callable_44 rfl rfl rfl rfl rfl rfl (rankV_any ga1 ba1 qa1 am gc1 bc1 qc1 f.m lm cm f M _ hlg (hSW.at hO46.tail.tail) (by omega) (hr.reads hO46 1 rfl)) (fun e47 w48 hp49 => ?_)
   obtain ⟨x, y, je2, hx, hy, hje2, rfl, hb2⟩ := hp49
   refine ⟨_, rfl, ?_⟩
   have hO50 := hO46.past hb2
   refine rl_v rfl rfl rfl (ov_move rfl rfl) <| rl_v rfl rfl rfl (ov_extract rfl rfl (by rfl)) ?_
   refine rl_v rfl rfl rfl (ov_extract rfl rfl (by rfl)) ?_
   refine rl_v rfl rfl rfl (ov_extract rfl rfl (by rfl)) ?_
   refine rl_v rfl rfl rfl (ov_assign rfl rfl) <| rl_v rfl rfl rfl (ov_assign rfl rfl) <| rl_v rfl rfl rfl (ov_assign rfl rfl) <| rl_nil <| run_seq <| Run.keep [5, 6, 7, 8, 9, 10, 11, 12, 13, 14] (F' := [(5, _), (6, _), (7, _), (8, _), (9, _), (10, _), (11, _), (12, _), (13, _), (14, _)]) rfl <| run_join1 (fun (z : Nat) => []) [5, 6, 7, 8] (fun (z : Nat) (w51 : World) => Own w.heap.size w w51 (c2 :: c :: W)) (fun hk52 => ?_) ?_
   ·refine run_block <| run_seq <| run_region <| rl_v rfl rfl rfl (ov_move rfl rfl) <| rl_v rfl rfl rfl (ov_len rfl Try.underlying23 rfl) <| rl_v rfl rfl rfl (ov_fieldS rfl Try.underlying25 rfl (fo := 0) rfl (by kernel_rfl) rfl) ?_
    refine rl_v rfl rfl rfl (ov_load rfl Try.underlying22 rfl rfl (by exact hO50.cellL 3 hD1 (off := 0) rfl)) ?_
    refine rl_v rfl rfl rfl (ov_len rfl Try.underlying22 rfl) <| rl_v rfl rfl rfl (ov_neq rfl rfl rfl) <| rl_v rfl rfl rfl (ov_assign rfl rfl) <| rl_nil ?_
    first | refine run_cond_dec rfl (fun c1 => ?_) (fun c1 => ?_) | refine run_cond rfl (fun c1 => ?_) (fun c1 => ?_)
    ·have e7 : jdE f f.m lm M = 7 := (jd_cases f hV lm M).1 (by omega)
     have e8 : jdE f f.m lm M ≠ 0 := by rw [e7]; decide
     obtain rfl : je = 7 := hje.trans e7
     obtain rfl : je2 = 7 := hje2.trans e7
     obtain rfl : x = 0 := hx.trans (if_neg e8)
     obtain rfl : y = 0 := hy.trans (if_neg e8)
     obtain rfl : Lb = [] := hLb.trans (if_neg e8)
     refine run_seq <| run_region <| rl_v rfl rfl rfl (ov_move rfl rfl) <| rl_v rfl rfl rfl (ov_neq rfl rfl rfl) <| rl_v rfl rfl rfl (ov_move rfl rfl) ?_
     first | refine rl_noD 121 rfl (fun h => h rfl) ?_ | refine rl_no 121 rfl (fun h => h rfl) ?_
     refine rl_gv rfl rfl rfl rfl rfl (ov_move rfl rfl) <| rl_gv rfl rfl rfl rfl rfl (ov_neq rfl rfl rfl) <| rl_v rfl rfl rfl (ov_pick_f rfl rfl rfl) <| rl_v rfl rfl rfl (ov_move rfl rfl) ?_
     first | refine rl_noD 125 rfl (fun h => h rfl) ?_ | refine rl_no 125 rfl (fun h => h rfl) ?_
     refine rl_gv rfl rfl rfl rfl rfl (ov_move rfl rfl) <| rl_gv rfl rfl rfl rfl rfl (ov_len rfl Try.underlying67 rfl) <| rl_gv rfl rfl rfl rfl rfl (ov_neq rfl rfl rfl) <| rl_v rfl rfl rfl (ov_pick_f rfl rfl rfl) <| rl_v rfl rfl rfl (ov_move rfl rfl) ?_
     first | refine rl_noD 130 rfl (fun h => h rfl) ?_ | refine rl_no 130 rfl (fun h => h rfl) ?_
     refine rl_gv rfl rfl rfl rfl rfl (ov_move rfl rfl) <| rl_gv rfl rfl rfl rfl rfl (ov_neq rfl rfl rfl) <| rl_v rfl rfl rfl (ov_pick_f rfl rfl rfl) <| rl_v rfl rfl rfl (ov_move rfl rfl) ?_
     first | refine rl_noD 134 rfl (fun h => h rfl) ?_ | refine rl_no 134 rfl (fun h => h rfl) ?_
     refine rl_gv rfl rfl rfl rfl rfl (ov_move rfl rfl) <| rl_gv rfl rfl rfl rfl rfl (ov_neq rfl rfl rfl) <| rl_v rfl rfl rfl (ov_pick_f rfl rfl rfl) <| rl_nil ?_
     first | refine run_cond_dec rfl (fun bad => ?_) (fun bad => ?_) | refine run_cond rfl (fun bad => ?_) (fun bad => ?_)
     ·exfalso; exact bad rfl
     ·refine run_skip <| run_inBlock ?_
      refine Run.use (hk52 (0) _ ?_) (And.intro rfl (And.intro rfl (And.intro rfl (And.intro rfl trivial))))
      exact hO50
    ·obtain rfl : lm = f.n := by omega
     refine run_seq <| run_region <| rl_v rfl rfl rfl (ov_move rfl rfl) <| rl_v rfl rfl rfl (ov_not rfl rfl) <| rl_v rfl rfl rfl (ov_assign rfl rfl) <| rl_nil ?_
     first | refine run_cond_dec rfl (fun c2' => ?_) (fun c2' => ?_) | refine run_cond rfl (fun c2' => ?_) (fun c2' => ?_)
     ·have hnp : ¬ f.Poss M := fun h => by rw [dB_iff.2 ⟨rfl, h⟩] at c2'; exact Bool.noConfusion c2'
      have e7 : jdE f f.m f.n M = 4 := (jd_cases f hV f.n M).2.1 rfl hnp
      have e8 : jdE f f.m f.n M ≠ 0 := by rw [e7]; decide
      obtain rfl : je = 4 := hje.trans e7
      obtain rfl : je2 = 4 := hje2.trans e7
      obtain rfl : x = 0 := hx.trans (if_neg e8)
      obtain rfl : y = 0 := hy.trans (if_neg e8)
      obtain rfl : Lb = [] := hLb.trans (if_neg e8)
      refine run_seq <| run_region <| rl_v rfl rfl rfl (ov_move rfl rfl) <| rl_v rfl rfl rfl (ov_neq rfl rfl rfl) <| rl_v rfl rfl rfl (ov_move rfl rfl) ?_
      first | refine rl_noD 143 rfl (fun h => h rfl) ?_ | refine rl_no 143 rfl (fun h => h rfl) ?_
      refine rl_gv rfl rfl rfl rfl rfl (ov_move rfl rfl) <| rl_gv rfl rfl rfl rfl rfl (ov_neq rfl rfl rfl) <| rl_v rfl rfl rfl (ov_pick_f rfl rfl rfl) <| rl_v rfl rfl rfl (ov_move rfl rfl) ?_
      first | refine rl_noD 147 rfl (fun h => h rfl) ?_ | refine rl_no 147 rfl (fun h => h rfl) ?_
      refine rl_gv rfl rfl rfl rfl rfl (ov_move rfl rfl) <| rl_gv rfl rfl rfl rfl rfl (ov_len rfl Try.underlying67 rfl) <| rl_gv rfl rfl rfl rfl rfl (ov_neq rfl rfl rfl) <| rl_v rfl rfl rfl (ov_pick_f rfl rfl rfl) <| rl_v rfl rfl rfl (ov_move rfl rfl) ?_
      first | refine rl_noD 152 rfl (fun h => h rfl) ?_ | refine rl_no 152 rfl (fun h => h rfl) ?_
      refine rl_gv rfl rfl rfl rfl rfl (ov_move rfl rfl) <| rl_gv rfl rfl rfl rfl rfl (ov_neq rfl rfl rfl) <| rl_v rfl rfl rfl (ov_pick_f rfl rfl rfl) <| rl_v rfl rfl rfl (ov_move rfl rfl) ?_
      first | refine rl_noD 156 rfl (fun h => h rfl) ?_ | refine rl_no 156 rfl (fun h => h rfl) ?_
      refine rl_gv rfl rfl rfl rfl rfl (ov_move rfl rfl) <| rl_gv rfl rfl rfl rfl rfl (ov_neq rfl rfl rfl) <| rl_v rfl rfl rfl (ov_pick_f rfl rfl rfl) <| rl_nil ?_
      first | refine run_cond_dec rfl (fun bad => ?_) (fun bad => ?_) | refine run_cond rfl (fun bad => ?_) (fun bad => ?_)
      ·exfalso; exact bad rfl
      ·refine run_skip <| run_inBlock ?_
       refine Run.use (hk52 (0) _ ?_) (And.intro rfl (And.intro rfl (And.intro rfl (And.intro rfl trivial))))
       exact hO50
     ·have hpb : dB (f.n = f.n ∧ f.Poss M) = true := by revert c2'; cases dB (f.n = f.n ∧ f.Poss M) <;> simp
      have hp : f.Poss M := (dB_iff.1 hpb).2
      have e7 : jdE f f.m f.n M = 0 := (jd_cases f hV f.n M).2.2 rfl hp
      obtain rfl : je = 0 := hje.trans e7
      obtain rfl : je2 = 0 := hje2.trans e7
      obtain rfl : x = rkA f M f.n := hx.trans (if_pos e7)
      obtain rfl : y = rkB f M f.n := hy.trans (if_pos e7)
      obtain rfl : Lb = blkTo f M f.n := hLb.trans (if_pos e7)
      refine run_seq <| run_region <| rl_v rfl rfl rfl (ov_loadW rfl Try.underlying25 rfl (by kernel_rfl) rfl hO50 3 (hD1)) ?_
      refine rl_v rfl rfl rfl (ov_move rfl rfl) ?_
      refine rl_call callable_45 rfl rfl rfl rfl rfl rfl (refBlocking_any ga1 ba1 qa1 am gc1 bc1 qc1 cm f M _ hV (hSW.at hO50.tail.tail) (hr.reads hO50 1 rfl)) (fun e53 w54 hp55 => ?_)
      obtain ⟨v, c3, rfl, hrw, hO6⟩ := hp55
      refine ⟨_, rfl, ?_⟩
      have hO56 := hO50.join hO6
      obtain ⟨aw, cw, rfl⟩ := Row.val hrw
      refine rl_v rfl rfl rfl (ov_assign rfl rfl) <| rl_nil <| run_seq <| run_region <| rl_v rfl rfl rfl (ov_loadW rfl Try.underlying25 rfl (by kernel_rfl) rfl hO56 4 ((show ((_ :: _ :: _ :: W)[4]? : Option (Option Blk)) = _ from hW1))) ?_
      refine rl_v rfl rfl rfl (ov_move rfl rfl) ?_
      refine rl_call callable_46 rfl rfl rfl rfl rfl rfl (refRanks_any ga1 ba1 qa1 am gc1 bc1 qc1 cm f M _ hV (hSW.at hO56.tail.tail.tail) hp (hr.reads hO56 2 rfl)) (fun e57 w58 hp59 => ?_)
      obtain ⟨rfl, hb3⟩ := hp59
      refine ⟨_, rfl, ?_⟩
      have hO60 := hO56.past hb3
      refine rl_v rfl rfl rfl (ov_move rfl rfl) <| rl_v rfl rfl rfl (ov_extract rfl rfl (by rfl)) ?_
      refine rl_v rfl rfl rfl (ov_extract rfl rfl (by rfl)) ?_
      refine rl_v rfl rfl rfl (ov_assign rfl rfl) <| rl_v rfl rfl rfl (ov_assign rfl rfl) <| rl_nil <| run_seq <| run_seq <| run_region <| rl_v rfl rfl rfl (ov_move rfl rfl) <| rl_v rfl rfl rfl (ov_neq rfl rfl rfl) <| rl_v rfl rfl rfl (ov_move rfl rfl) ?_
      first | refine rl_noD 76 rfl (fun h => h rfl) ?_ | refine rl_no 76 rfl (fun h => h rfl) ?_
      refine rl_gv rfl rfl rfl rfl rfl (ov_move rfl rfl) <| rl_gv rfl rfl rfl rfl rfl (ov_neq rfl rfl rfl) <| rl_v rfl rfl rfl (ov_pick_f rfl rfl rfl) <| rl_v rfl rfl rfl (ov_move rfl rfl) ?_
      first | refine rl_noD 80 rfl (fun h => h rfl) ?_ | refine rl_no 80 rfl (fun h => h rfl) ?_
      refine rl_gv rfl rfl rfl rfl rfl (ov_move rfl rfl) <| rl_gv rfl rfl rfl rfl rfl (ov_len rfl Try.underlying67 rfl) <| rl_gv rfl rfl rfl rfl rfl (ov_move rfl rfl) <| rl_gv rfl rfl rfl rfl rfl (ov_len rfl Try.underlying72 rfl) <| rl_gv rfl rfl rfl rfl rfl (ov_neq rfl rfl rfl) <| rl_v rfl rfl rfl (ov_pick_f rfl rfl rfl) <| rl_v rfl rfl rfl (ov_move rfl rfl) ?_
      first | refine rl_noD 87 rfl (fun h => h rfl) ?_ | refine rl_no 87 rfl (fun h => h rfl) ?_
      refine rl_gv rfl rfl rfl rfl rfl (ov_move rfl rfl) <| rl_gv rfl rfl rfl rfl rfl (ov_move rfl rfl) <| rl_gv rfl rfl rfl rfl rfl (ov_neq rfl rfl rfl) <| rl_v rfl rfl rfl (ov_pick_f rfl rfl rfl) <| rl_v rfl rfl rfl (ov_move rfl rfl) ?_
      first | refine rl_noD 92 rfl (fun h => h rfl) ?_ | refine rl_no 92 rfl (fun h => h rfl) ?_
      refine rl_gv rfl rfl rfl rfl rfl (ov_move rfl rfl) <| rl_gv rfl rfl rfl rfl rfl (ov_move rfl rfl) <| rl_gv rfl rfl rfl rfl rfl (ov_neq rfl rfl rfl) <| rl_v rfl rfl rfl (ov_pick_f rfl rfl rfl) <| rl_nil ?_
      first | refine run_cond_dec rfl (fun bad => ?_) (fun bad => ?_) | refine run_cond rfl (fun bad => ?_) (fun bad => ?_)
      ·exfalso; exact bad rfl
      ·have hlen1 := blkTo_len f M f.n
       have hgm : f.n * f.m ≤ 64 * 64 := Nat.mul_le_mul hn1 hm1
       refine run_skip <| run_seq <| run_region <| rl_v rfl rfl rfl (ov_assign rfl rfl) <| rl_nil <| run_block <| Run.keep [5, 6, 7, 8, 10, 15, 18] (F' := [(5, _), (6, _), (7, _), (8, _), (10, _), (15, _), (18, _)]) rfl <| run_loop1 (fun (i : Int) => [(18, .int .i64 i)]) [5, 6, 7, 8, 10, 15] (fun (i : Int) (w61 : World) => 0 ≤ i ∧ Own w.heap.size w w61 (c3 :: c2 :: c :: W)) (fun (i : Int) => ((blkTo f M f.n).length - i).toNat) (0) ?_ (And.intro (by exact slot_int rfl (by first | omega)) (And.intro rfl (And.intro rfl (And.intro rfl (And.intro rfl (And.intro rfl (And.intro rfl trivial))))))) ?_
       ·exact ⟨by omega, hO60⟩
       intro i w61 hIw61 ih62
       obtain ⟨hi0, hO7⟩ := hIw61
       show Run _ _ _ _ [(18, _), (5, _), (6, _), (7, _), (8, _), (10, _), (15, _)] _ _
       refine run_seq <| run_seq <| run_region <| rl_v rfl rfl rfl (ov_move rfl rfl) <| rl_v rfl rfl rfl (ov_move rfl rfl) <| rl_v rfl rfl rfl (ov_len rfl Try.underlying67 rfl) <| rl_v rfl rfl rfl (ov_lss rfl rfl rfl) <| rl_nil ?_
       first | refine run_cond_dec rfl (fun c5 => ?_) (fun c5 => ?_) | refine run_cond rfl (fun c5 => ?_) (fun c5 => ?_)
       ·obtain ⟨bL, hbL⟩ := hrL.addr
        have hbL' := hbL (by omega)
        obtain ⟨bw, hbw⟩ := hrw.addr
        have hbw' := hbw (by omega)
        refine run_skip <| run_seq <| run_block <| run_seq <| run_class (Cl5 w.heap.size w (c3 :: c2 :: c :: W)) (⟨hO7.drew⟩) mixed (by kernel_rfl) ?_
        refine rk_v rfl rfl rfl (fun wq hQ => ov_move rfl rfl) ?_
        refine rk_v rfl rfl rfl (fun wq hQ => ov_move rfl rfl) ?_
        refine rk_v rfl rfl rfl (fun wq hQ => ov_index rfl Try.underlying67 (by kernel_rfl) (s := 2) rfl rfl ⟨by omega, by omega⟩ (by exact (id hbL'))) ?_
        refine rk_v rfl rfl rfl (fun wq hQ => ov_loadE rfl Try.underlying78 rfl (by kernel_rfl) rfl ⟨by omega, by omega⟩ rfl (hrL.cellsE (hQ.own) 1 rfl hbL')) ?_
        refine rk_v rfl rfl rfl (fun wq hQ => ov_move rfl rfl) ?_
        refine rk_v rfl rfl rfl (fun wq hQ => ov_move rfl rfl) ?_
        refine rk_v rfl rfl rfl (fun wq hQ => ov_index rfl Try.underlying72 (by kernel_rfl) (s := 2) rfl rfl ⟨by omega, by omega⟩ (by exact (id hbw'))) ?_
        refine rk_v rfl rfl rfl (fun wq hQ => ov_loadE rfl Try.underlying77 rfl (by kernel_rfl) rfl ⟨by omega, by omega⟩ rfl (hrw.cellsE (hQ.own) 0 rfl hbw')) ?_
        refine rk_v rfl rfl rfl (fun wq hQ => ov_neqPr rfl rfl rfl) ?_
        refine rk_nil (fun w63 hQ3 => ?_)
        refine run_cond_f rfl <| run_skip <| run_inBlock <| run_region <| rl_v rfl rfl rfl (ov_move rfl rfl) <| rl_v rfl rfl rfl (ov_add rfl rfl rfl (by omega)) ?_
        refine rl_v rfl rfl rfl (ov_assign rfl rfl) <| rl_nil ?_
        refine Run.use (ih62 (i + 1) _ ?_ ?_) (And.intro (by exact slot_int rfl (by first | omega)) (And.intro rfl (And.intro rfl (And.intro rfl (And.intro rfl (And.intro rfl (And.intro rfl trivial)))))))
        ·first | omega | (dsimp only; omega)
        ·exact ⟨by omega, (hQ3.own)⟩
       ·refine run_exit rfl <| run_inBlock ?_
        refine Run.use (hk52 (0) _ ?_) (And.intro rfl (And.intro rfl (And.intro rfl (And.intro rfl trivial))))
        exact hO7.tail
   ·intro z w51 hJw51
    have hO5 := hJw51
    show Run _ _ _ _ [(5, _), (6, _), (7, _), (8, _)] _ _
    have hO9 := hO5.tail
    refine run_seq <| run_block <| Run.keep [5, 6, 7, 8] (F' := [(5, _), (6, _), (7, _), (8, _)]) rfl <| run_loop3 (fun (am : Option Addr) (lm : Nat) (cm : Nat) => [(7, .slice am lm cm)]) [5, 6, 8] (fun (am : Option Addr) (lm : Nat) (cm : Nat) (w64 : World) => lm ≤ 100 ∧ ∃ (M : Int → Int) (c : Option Blk), IRow (.slice am lm cm) 3 lm (fun i => iv (M i)) c ∧ Own w.heap.size w w64 (c :: W)) (fun (am : Option Addr) (lm : Nat) (cm : Nat) => f.n - lm) (am) (lm) (cm) ?_ (And.intro rfl (And.intro rfl (And.intro rfl (And.intro rfl trivial)))) ?_
    ·exact ⟨hlm, M, c, hr, hO9⟩
    intro am lm cm w64 hIw64 ih65
    obtain ⟨hlm, M, c, hr, hO⟩ := hIw64
    show Run _ _ _ _ [(7, _), (5, _), (6, _), (8, _)] _ _
    refine run_seq <| run_seq <| run_region <| rl_v rfl rfl rfl (ov_move rfl rfl) <| rl_v rfl rfl rfl (ov_len rfl Try.underlying23 rfl) <| rl_v rfl rfl rfl (ov_fieldS rfl Try.underlying25 rfl (fo := 0) rfl (by kernel_rfl) rfl) ?_
    refine rl_v rfl rfl rfl (ov_load rfl Try.underlying22 rfl rfl (by exact hO.cellL 2 hC1 (off := 0) rfl)) ?_
    refine rl_v rfl rfl rfl (ov_len rfl Try.underlying22 rfl) <| rl_v rfl rfl rfl (ov_lss rfl rfl rfl) <| rl_nil ?_
    first | refine run_cond_dec rfl (fun c6 => ?_) (fun c6 => ?_) | refine run_cond rfl (fun c6 => ?_) (fun c6 => ?_)
    ·refine run_skip <| run_block <| run_region <| rl_v rfl rfl rfl (ov_move rfl rfl) ?_
     refine rl_appI rfl rfl rfl rfl rfl rfl rfl rfl Try.underlying23 info_3 rfl hO 0 hr rfl rfl rfl ⟨by omega, by omega⟩ (fun v168 c168 w66 hO67 hr168 hs68 => ?_)
     obtain ⟨a168, cp168, rfl⟩ := Row.val hr168
     refine rl_v rfl rfl rfl (ov_assign rfl rfl) <| rl_nil <| run_inBlock ?_
     refine Run.use (ih65 (a168) (lm + 1) (cp168) _ ?_ ?_) (And.intro rfl (And.intro rfl (And.intro rfl (And.intro rfl trivial))))
     ·first | omega | (dsimp only; omega)
     ·exact ⟨by omega, upd M lm (-1), c168, hr168.congr (fun j _ _ => by unfold upd; split <;> rfl), hO67⟩
    ·have hcm := hr.capF
     refine run_exit rfl <| run_seq <| run_region <| rl_v rfl rfl rfl (ov_move rfl rfl) <| rl_v rfl rfl rfl (ov_fieldS rfl Try.underlying25 rfl (fo := 0) rfl (by kernel_rfl) rfl) ?_
     refine rl_v rfl rfl rfl (ov_load rfl Try.underlying22 rfl rfl (by exact hO.cellL 2 hC1 (off := 0) rfl)) ?_
     refine rl_v rfl rfl rfl (ov_len rfl Try.underlying22 rfl) <| rl_v rfl rfl rfl (ov_sliceH (f.n) (s := 1) rfl Try.underlying23 (by kernel_rfl) rfl rfl (by rfl) (by omega)) ?_
     refine rl_v rfl rfl rfl (ov_assign rfl rfl) <| rl_nil <| run_seq <| run_region <| rl_v rfl rfl rfl (ov_assign rfl rfl) <| rl_nil <| run_block <| Run.keep [5, 6, 7, 8, 19] (F' := [(5, _), (6, _), (7, _), (8, _), (19, _)]) rfl <| run_loop1 (fun (i : Int) => [(19, .int .i64 i)]) [5, 6, 7, 8] (fun (i : Int) (w69 : World) => 0 ≤ i ∧ ∃ (M : Int → Int) (c : Option Blk), IRow (.slice am f.n cm) 3 f.n (fun i => iv (M i)) c ∧ Own w.heap.size w w69 (c :: W)) (fun (i : Int) => (f.n - i).toNat) (0) ?_ (And.intro (by exact slot_int rfl (by first | omega)) (And.intro rfl (And.intro rfl (And.intro rfl (And.intro rfl trivial))))) ?_
     ·exact ⟨by omega, M, c, hr.cutF (by omega), hO⟩
     intro i w69 hIw69 ih70
     obtain ⟨hi0, M, c, hr, hO⟩ := hIw69
     show Run _ _ _ _ [(19, _), (5, _), (6, _), (7, _), (8, _)] _ _
     refine run_seq <| run_seq <| run_region <| rl_v rfl rfl rfl (ov_move rfl rfl) <| rl_v rfl rfl rfl (ov_move rfl rfl) <| rl_v rfl rfl rfl (ov_len rfl Try.underlying23 rfl) <| rl_v rfl rfl rfl (ov_lss rfl rfl rfl) <| rl_v rfl rfl rfl (ov_move rfl rfl) ?_
     first | refine rl_split_dec 178 rfl (fun g1 => ?_) (fun g1 => ?_) | refine rl_split 178 rfl (fun g1 => ?_) (fun g1 => ?_)
     ·refine rl_gv rfl rfl rfl rfl rfl (ov_move rfl rfl) <| rl_gv rfl rfl rfl rfl rfl (ov_gtr rfl rfl rfl) <| rl_v rfl rfl rfl (ov_pick_t rfl rfl rfl) <| rl_nil ?_
      first | refine run_cond_dec rfl (fun c7 => ?_) (fun c7 => ?_) | refine run_cond rfl (fun c7 => ?_) (fun c7 => ?_)
      ·refine run_skip <| run_seq <| run_block <| run_seq <| run_region <| rl_v rfl rfl rfl (ov_loadW rfl Try.underlying25 rfl (by kernel_rfl) rfl hO 2 (hC1)) ?_
       refine rl_v rfl rfl rfl (ov_move rfl rfl) ?_
       refine rl_call callable_40 rfl rfl rfl rfl rfl rfl (callsDB (refPossible_any ga1 ba1 qa1 am gc1 bc1 qc1 f.n cm f M _ hV (hSW.at hO.tail) (by omega) (hr.reads hO 0 rfl))) (fun e72 w73 hp74 => ?_)
       obtain ⟨rfl, hb4⟩ := hp74
       refine ⟨_, rfl, ?_⟩
       have hO75 := hO.past hb4
       refine rl_v rfl rfl rfl (ov_not rfl rfl) <| rl_nil ?_
       first | refine run_cond_dec rfl (fun c8 => ?_) (fun c8 => ?_) | refine run_cond rfl (fun c8 => ?_) (fun c8 => ?_)
       ·obtain ⟨gb, hgb⟩ := hr.addr
        have hgb' := hgb (by omega)
        refine run_region <| rl_v rfl rfl rfl (ov_move rfl rfl) <| rl_v rfl rfl rfl (ov_move rfl rfl) <| rl_v rfl rfl rfl (ov_index1 rfl Try.underlying23 (by kernel_rfl) rfl rfl ⟨by omega, by omega⟩ (by exact (id hgb'))) ?_
        refine rl_ow rfl (ow_storeI1 rfl rfl (by kernel_rfl) hO75 0 hr rfl hgb rfl ⟨by omega, by omega⟩ rfl rfl) ?_
        rintro _ w76 ⟨c9, rfl, hO77, hv9, hs78⟩
        refine rl_nil <| run_inBlock <| run_region <| rl_v rfl rfl rfl (ov_move rfl rfl) <| rl_v rfl rfl rfl (ov_add rfl rfl rfl (by omega)) ?_
        refine rl_v rfl rfl rfl (ov_assign rfl rfl) <| rl_nil ?_
        refine Run.use (ih70 (i + 1) _ ?_ ?_) (And.intro (by exact slot_int rfl (by first | omega)) (And.intro rfl (And.intro rfl (And.intro rfl (And.intro rfl trivial)))))
        ·first | omega | (dsimp only; omega)
        ·exact ⟨by omega, upd M i (-1), c9, hv9.congr (fun j _ _ => by unfold upd; split <;> rfl), hO77⟩
       ·refine run_skip <| run_inBlock <| run_region <| rl_v rfl rfl rfl (ov_move rfl rfl) <| rl_v rfl rfl rfl (ov_add rfl rfl rfl (by omega)) ?_
        refine rl_v rfl rfl rfl (ov_assign rfl rfl) <| rl_nil ?_
        refine Run.use (ih70 (i + 1) _ ?_ ?_) (And.intro (by exact slot_int rfl (by first | omega)) (And.intro rfl (And.intro rfl (And.intro rfl (And.intro rfl trivial)))))
        ·first | omega | (dsimp only; omega)
        ·exact ⟨by omega, M, c, hr, hO75⟩
      ·refine run_exit rfl <| run_inBlock <| run_region <| rl_v rfl rfl rfl (ov_move rfl rfl) <| rl_v rfl rfl rfl (ov_add rfl rfl rfl (by omega)) ?_
       refine rl_v rfl rfl rfl (ov_assign rfl rfl) <| rl_nil ?_
       refine Run.use (ih28 (k + 1) (am) (f.n) (cm) _ ?_ ?_) (And.intro (by exact slot_int rfl (by first | omega)) (And.intro rfl (And.intro rfl (And.intro rfl trivial))))
       ·first | omega | (dsimp only; omega)
       ·exact ⟨by omega, by omega, by omega, M, c, hr, hO⟩
     ·refine rl_gskip rfl rfl rfl rfl rfl rfl <| rl_gskip rfl rfl rfl rfl rfl rfl <| rl_v rfl rfl rfl (ov_pick_f rfl rfl rfl) <| rl_nil <| run_cond_f rfl <| run_exit rfl <| run_inBlock <| run_region <| rl_v rfl rfl rfl (ov_move rfl rfl) <| rl_v rfl rfl rfl (ov_add rfl rfl rfl (by omega)) ?_
      refine rl_v rfl rfl rfl (ov_assign rfl rfl) <| rl_nil ?_
      refine Run.use (ih28 (k + 1) (am) (f.n) (cm) _ ?_ ?_) (And.intro (by exact slot_int rfl (by first | omega)) (And.intro rfl (And.intro rfl (And.intro rfl trivial))))
      ·first | omega | (dsimp only; omega)
      ·exact ⟨by omega, by omega, by omega, M, c, hr, hO⟩
 ·refine run_exit rfl <| run_seq <| run_region ?_
  refine rl_call callable_17 rfl rfl rfl rfl rfl rfl (awake5_any sortRows_all _) (fun e79 w80 hp81 => ?_)
  obtain ⟨rfl, hb9⟩ := hp81
  refine ⟨_, rfl, ?_⟩
  have hO82 := hO.past hb9
  refine rl_v rfl rfl rfl (ov_assign rfl rfl) <| rl_nil <| run_ret Try.func9 (res1 Try.results9 rfl) ?_
  exact ⟨rfl, hO82.below⟩
end Go.Proofs.Ytlldeifbfpmbaaa
