import Derived.Test.YteagflekbbchhaaReS
import Derived.Test.YteagflekbbchhaaReL
set_option maxRecDepth 100000
namespace Go.Proofs.Yteagflekbbchhaa
open Go.RowKit Go.Proofs
theorem SRow.addr {ao : Option Addr} {m cap : Nat} {E : TypeId} {s n : Nat} {G : Int → List Value} {c : Option Blk} (h : SRow (.slice ao m cap) E s n G c) : ∃ b, (0 < n → ao = some ⟨b, 0, none⟩) := by
 rcases h with ⟨_, rfl, _⟩ | ⟨b, cap', g, h1, _⟩
 ·exact ⟨0, fun h => absurd h (Nat.lt_irrefl _)⟩
 ·cases h1; exact ⟨b, fun _ => rfl⟩
theorem IRow.addr {ao : Option Addr} {m cap : Nat} {E : TypeId} {n : Nat} {G : Int → Value} {c : Option Blk} (h : IRow (.slice ao m cap) E n G c) : ∃ b, (0 < n → ao = some ⟨b, 0, none⟩) := by
 rcases h with ⟨_, rfl, _⟩ | ⟨b, cap', g, h1, _⟩
 ·exact ⟨0, fun h => absurd h (Nat.lt_irrefl _)⟩
 ·cases h1; exact ⟨b, fun _ => rfl⟩
theorem ow_storeI1 {N : Nat} {o : Oper} {F : Fr} {w w0 : World} {B : Nat} {H : List (Option Blk)} {T E : TypeId} {p x : Operand} {b n cap : Nat} {G : Int → Value} {c : Option Blk} {ao : Option Addr} {i : Int} {v : Value} (hd : o.dst = none) (ho : o.op = .store T p x) (hi : (Try.prog.info? T).map (·.size) = some 1)
  (hO : Own B w0 w H) (kk : Nat) (hr : IRow (.slice ao n cap) E n G c) (hk : H[kk]? = some c) (hao : 0 < n → ao = some ⟨b, 0, none⟩) (hp : Fr.ev F p = some (.pointer (some ⟨b, 0 + i.toNat, none⟩))) (hb : 0 ≤ i ∧ i < n)
  (hx : Fr.ev F x = some v) (h1 : v.oneCell' = true) :
  OpW Try.prog N o F w (fun F' w' => ∃ c', F' = F ∧ Own B w0 w' (H.set kk c') ∧ IRow (.slice ao n cap) E n (upd G i v) c' ∧ w'.heap.size = w.heap.size) := by
 obtain ⟨b', G', e1, e2, e3, rfl, e5⟩ := hr.asV (by omega)
 have := (hao (by omega)).symm.trans e1
 simp only [Option.some.injEq, Addr.mk.injEq] at this
 obtain rfl := this.1
 refine (ow_store hd ho hi hO kk hk hp ⟨hb.1, by omega⟩ hx h1).mono fun F' w' ⟨q1, q2, q3⟩ => ⟨_, q1, q2, ?_, q3⟩
 rw [e1]
 refine IRow.ofV e2 e3 fun j j0 j1 => ?_
 by_cases e : j = i
 ·subst e; simp
 ·rw [upd_ne _ _ e, upd_ne _ _ e]; exact e5 j j0 j1
set_option maxHeartbeats 1600000 in
theorem settleOwn_any (m p : Int) (a1 a2 lo : Option Addr) (n1 n2 c1 c2 ln lc : Nat) (G1 G2 : Int → Int) (S : Acts) (w : World) (h1 : IAt w.heap.size w a1 n1 (fun i => iv (G1 i))) (h2 : IAt w.heap.size w a2 n2 (fun i => iv (G2 i))) (hl : SAt w.heap.size w lo 7 ln S.l) (hkp : ∀ i, S.kept i ≤ 9223372036854775807) :
  Calls Try.prog 10 #[.agg #[iv m, iv p, .slice a1 n1 c1, .slice a2 n2 c2], .slice lo ln lc] w fun e w' => e = .returned (.bool true) ∧ Below w.heap.size w w' := by
 refine calls_of_run (F := [(0, _), (1, _)]) Try.func10 rfl Try.ntmps10 rfl rfl <| run_seq <| run_region <| rl_ow rfl (ow_box _ rfl rfl rfl rfl rfl (Own.init w)) ?_
 rintro _ w1 ⟨b2, rfl, hO2, hs3⟩
 refine rl_v rfl rfl rfl (ov_assign rfl rfl) <| rl_nil <| run_seq <| run_region <| rl_v rfl rfl rfl (ov_loadW rfl Try.underlying24 rfl (by kernel_rfl) rfl hO2 0 rfl) ?_
 refine rl_call callable_13 rfl rfl rfl rfl rfl rfl (tame_any m p a1 a2 n1 n2 c1 c2 G1 G2 w.heap.size _ w w1 h1 h2 hO2) (fun e4 w5 hp6 => ?_)
 obtain ⟨mem, pat, f1, f2, v1, v2, k1, k2, rfl, hm, hp, hR1, hR2, ⟨hl1, hl2⟩, hf1, hf2, hOt⟩ := hp6
 refine ⟨_, rfl, ?_⟩
 obtain ⟨s1, z1, rfl⟩ := hR1.val
 obtain ⟨s2, z2, rfl⟩ := hR2.val
 refine rl_v rfl rfl rfl (ov_move rfl rfl) ?_
 refine rl_call callable_28 rfl rfl rfl rfl rfl rfl (run_any (fun _ => True) (fun _ _ _ _ _ _ _ _ _ _ _ _ => trivial) mem pat f1 f2 s1 s2 lo z1 z2 ln lc w.heap.size 30 S k1 k2 _ w w5 trivial (by omega) hm (by omega) hl1 hl2 hf1 hf2 hR1 hR2 (by simp) (by simp) hl hkp hOt) (fun e7 w8 hp9 => ?_)
 obtain ⟨A, X, K, N, rfl, ⟨hX, _⟩, hW, hK⟩ := hp9
 refine ⟨_, rfl, ?_⟩
 have hG := hX.good
 have hL := hX.linv
 have hdn := hG.dn
 have hmm := hG.mem
 have hph := hX.phi
 have hbg : X.bag.length + 5000 < 4000000000000 := by unfold phi at hph; omega
 obtain ⟨R6, hR6⟩ : ∃ R6, R6 = N ++ [k1, k2, some (lch b2 24 [iv m, iv p, .slice a1 n1 c1, .slice a2 n2 c2])] := ⟨_, rfl⟩
 rw [← hR6] at hW hK
 clear hR6
 obtain ⟨Kw, Nw, hO, hKw, hPl⟩ := hW.fr
 refine rl_v rfl rfl rfl (ov_move rfl rfl) <| rl_v rfl rfl rfl (ov_extract rfl rfl (by rfl)) ?_
 refine rl_v rfl rfl rfl (ov_extract rfl rfl (by rfl)) ?_
 refine rl_ow rfl (ow_alloc _ rfl rfl rfl zero_69 rfl hO) ?_
 rintro _ w10 ⟨b6, rfl, hO11, hs12⟩
 refine rl_v rfl rfl rfl (ov_assign rfl rfl) <| rl_ow rfl (ow_storeW rfl rfl (by kernel_rfl) hO11 0 rfl rfl (by rfl) rfl (by rfl)) ?_
 rintro _ w13 ⟨rfl, hO14, hs15⟩
 have hW6 := WAt.unfr (R := some (lch b6 69 (rwl X K)) :: R6) hO14 hKw hPl
 refine rl_nil <| run_seq <| run_seq <| run_region <| rl_v rfl rfl rfl (ov_move rfl rfl) <| rl_v rfl rfl rfl (ov_ptrnil rfl Try.underlying27 rfl) <| rl_nil <| run_cond_f rfl <| run_skip <| run_seq <| run_region <| rl_v rfl rfl rfl (ov_move rfl rfl) ?_
 refine rl_call callable_38 rfl rfl rfl rfl rfl rfl (bag_any A X w.heap.size [] _ w w13 (by omega) hW6) (fun e16 w17 hp18 => ?_)
 obtain ⟨vb, cb, rfl, hrB, hWb⟩ := hp18
 refine ⟨_, rfl, ?_⟩
 refine rl_v rfl rfl rfl (ov_move rfl rfl) ?_
 refine rl_call callable_22 rfl rfl rfl rfl rfl rfl (deals_any A X w.heap.size [] _ w w17 hG hWb) (fun e19 w20 hp21 => ?_)
 obtain ⟨vd, cd, rfl, hrD, hWd⟩ := hp21
 refine ⟨_, rfl, ?_⟩
 obtain ⟨ab, pb, rfl⟩ := hrB.val
 obtain ⟨ad, pd, rfl⟩ := hrD.val
 obtain ⟨gb, hgb⟩ := hrB.addr
 obtain ⟨gd, hgd⟩ := hrD.addr
 refine rl_v rfl rfl rfl (ov_assign rfl rfl) <| rl_v rfl rfl rfl (ov_assign rfl rfl) <| rl_nil <| run_seq <| run_seq <| run_region <| rl_v rfl rfl rfl (ov_assign rfl rfl) <| rl_nil <| run_block <| Run.keep [5, 6, 7, 8, 9] (F' := [(5, _), (6, _), (7, _), (8, _), (9, _)]) rfl <| run_loop3 (fun (i : Int) (c : Option Blk) (G : Int → List Value) => [(9, .int .i64 i)]) [5, 6, 7, 8] (fun (i : Int) (c : Option Blk) (G : Int → List Value) (w22 : World) => 0 ≤ i ∧ i ≤ X.bag.length ∧ SRow (.slice ab X.bag.length pb) 87 4 X.bag.length G c ∧ WAt w.heap.size w w22 A X [] (cd :: c :: some (lch b6 69 (rwl X K)) :: R6)) (fun (i : Int) (c : Option Blk) (G : Int → List Value) => ((X.bag.length : Int) - i).toNat) (0) (cb) (cnt msl Ms.z X.bag) ?_ (And.intro (by exact slot_int rfl (by first | omega)) (And.intro rfl (And.intro rfl (And.intro rfl (And.intro rfl trivial))))) ?_
 ·exact ⟨by omega, by omega, hrB, hWd⟩
 intro i c G w22 hIw22 ih23
 obtain ⟨hi0, hi1, hrC, hWi⟩ := hIw22
 show Run _ _ _ _ [(9, _), (5, _), (6, _), (7, _), (8, _)] _ _
 refine run_seq <| run_seq <| run_region <| rl_v rfl rfl rfl (ov_move rfl rfl) <| rl_v rfl rfl rfl (ov_move rfl rfl) <| rl_v rfl rfl rfl (ov_len rfl Try.underlying79 rfl) <| rl_v rfl rfl rfl (ov_lss rfl rfl rfl) <| rl_nil ?_
 first | refine run_cond_dec rfl (fun hq => ?_) (fun hq => ?_) | refine run_cond rfl (fun hq => ?_) (fun hq => ?_)
 ·obtain ⟨Kx, Nx, hOx, hKx, hPx⟩ := hWi.fr
  refine run_skip <| run_seq <| run_block <| run_region <| rl_v rfl rfl rfl (ov_move rfl rfl) <| rl_v rfl rfl rfl (ov_move rfl rfl) <| rl_v rfl rfl rfl (ov_buildL rfl lay_87 rfl (us := [_, _, _, _]) rfl) <| rl_v rfl rfl rfl (ov_index rfl Try.underlying79 (by kernel_rfl) (s := 4) rfl rfl ⟨by omega, by omega⟩ (by exact (hgb (by omega)))) ?_
  refine rl_ow rfl (ow_storeS rfl rfl (by kernel_rfl) hOx hrC (kk := 1) rfl hgb rfl ⟨by omega, by omega⟩ rfl rfl rfl) ?_
  rintro _ w24 ⟨c2, rfl, hO25, hr2, hs26⟩
  have hWz := WAt.unfr (R := _ :: _ :: _ :: R6) hO25 hKx hPx
  refine rl_nil <| run_inBlock <| run_region <| rl_v rfl rfl rfl (ov_move rfl rfl) <| rl_v rfl rfl rfl (ov_add rfl rfl rfl (by omega)) ?_
  refine rl_v rfl rfl rfl (ov_assign rfl rfl) <| rl_nil ?_
  refine Run.use (ih23 (i + 1) (c2) (upd G i [iv 0, iv 0, iv 0, iv 0]) _ ?_ ?_) (And.intro (by exact slot_int rfl (by first | omega)) (And.intro rfl (And.intro rfl (And.intro rfl (And.intro rfl trivial)))))
  ·first | omega | (dsimp only; omega)
  ·exact ⟨by omega, by omega, hr2, hWz⟩
 ·refine run_exit rfl <| run_seq <| run_seq <| run_region <| rl_v rfl rfl rfl (ov_assign rfl rfl) <| rl_nil <| run_block <| Run.keep [5, 6, 8, 10] (F' := [(5, _), (6, _), (8, _), (10, _)]) rfl <| run_loop3 (fun (i : Int) (c3 : Option Blk) (G : Int → List Value) => [(10, .int .i64 i)]) [5, 6, 8] (fun (i : Int) (c3 : Option Blk) (G : Int → List Value) (w27 : World) => 0 ≤ i ∧ i ≤ X.deals.length ∧ SRow (.slice ad X.deals.length pd) 41 4 X.deals.length G c3 ∧ WAt w.heap.size w w27 A X [] (c3 :: c :: some (lch b6 69 (rwl X K)) :: R6)) (fun (i : Int) (c3 : Option Blk) (G : Int → List Value) => ((X.deals.length : Int) - i).toNat) (0) (cd) (cnt dll Dl.z X.deals) ?_ (And.intro (by exact slot_int rfl (by first | omega)) (And.intro rfl (And.intro rfl (And.intro rfl trivial)))) ?_
  ·exact ⟨by omega, by omega, hrD, hWi⟩
  intro i c3 G w27 hIw27 ih28
  obtain ⟨hi0, hi1, hrE, hWi⟩ := hIw27
  show Run _ _ _ _ [(10, _), (5, _), (6, _), (8, _)] _ _
  refine run_seq <| run_seq <| run_region <| rl_v rfl rfl rfl (ov_move rfl rfl) <| rl_v rfl rfl rfl (ov_move rfl rfl) <| rl_v rfl rfl rfl (ov_len rfl Try.underlying52 rfl) <| rl_v rfl rfl rfl (ov_lss rfl rfl rfl) <| rl_nil ?_
  first | refine run_cond_dec rfl (fun hq => ?_) (fun hq => ?_) | refine run_cond rfl (fun hq => ?_) (fun hq => ?_)
  ·obtain ⟨Kx, Nx, hOx, hKx, hPx⟩ := hWi.fr
   refine run_skip <| run_seq <| run_block <| run_region <| rl_v rfl rfl rfl (ov_move rfl rfl) <| rl_v rfl rfl rfl (ov_move rfl rfl) <| rl_v rfl rfl rfl (ov_buildL rfl lay_41 rfl (us := [_, _, _, _]) rfl) <| rl_v rfl rfl rfl (ov_index rfl Try.underlying52 (by kernel_rfl) (s := 4) rfl rfl ⟨by omega, by omega⟩ (by exact (hgd (by omega)))) ?_
   refine rl_ow rfl (ow_storeS rfl rfl (by kernel_rfl) hOx hrE (kk := 0) rfl hgd rfl ⟨by omega, by omega⟩ rfl rfl rfl) ?_
   rintro _ w29 ⟨c2, rfl, hO30, hr2, hs31⟩
   have hWz := WAt.unfr (R := _ :: _ :: _ :: R6) hO30 hKx hPx
   refine rl_nil <| run_inBlock <| run_region <| rl_v rfl rfl rfl (ov_move rfl rfl) <| rl_v rfl rfl rfl (ov_add rfl rfl rfl (by omega)) ?_
   refine rl_v rfl rfl rfl (ov_assign rfl rfl) <| rl_nil ?_
   refine Run.use (ih28 (i + 1) (c2) (upd G i [iv 0, iv 0, iv 0, iv 0]) _ ?_ ?_) (And.intro (by exact slot_int rfl (by first | omega)) (And.intro rfl (And.intro rfl (And.intro rfl trivial))))
   ·first | omega | (dsimp only; omega)
   ·exact ⟨by omega, by omega, hr2, hWz⟩
  ·refine run_exit rfl <| run_seq <| run_seq <| run_region <| rl_v rfl rfl rfl (ov_assign rfl rfl) <| rl_nil <| run_block <| Run.keep [5, 6, 11] (F' := [(5, _), (6, _), (11, _)]) rfl <| run_loop1 (fun (q : Int) => [(11, .int .i64 q)]) [5, 6] (fun (q : Int) (w32 : World) => 1 ≤ q ∧ q ≤ 3 ∧ WAt w.heap.size w w32 A X [] (some (lch b6 69 (rwl X K)) :: R6)) (fun (q : Int) => (3 - q).toNat) (1) ?_ (And.intro (by exact slot_int rfl (by first | omega)) (And.intro rfl (And.intro rfl trivial))) ?_
   ·exact ⟨by omega, by omega, hWi.drop.drop⟩
   intro q w32 hIw32 ih33
   obtain ⟨hn0, hn1, hWi⟩ := hIw32
   show Run _ _ _ _ [(11, _), (5, _), (6, _)] _ _
   refine run_seq <| run_seq <| run_region <| rl_v rfl rfl rfl (ov_move rfl rfl) <| rl_v rfl rfl rfl (ov_lss rfl rfl rfl) <| rl_nil ?_
   first | refine run_cond_dec rfl (fun hq => ?_) (fun hq => ?_) | refine run_cond rfl (fun hq => ?_) (fun hq => ?_)
   ·have hn : q = 1 ∨ q = 2 := by omega
    have hfl := hG.fl q hn
    refine run_skip <| run_seq <| run_block <| run_seq <| run_region <| rl_v rfl rfl rfl (ov_move rfl rfl) <| rl_v rfl rfl rfl (ov_move rfl rfl) ?_
    refine rl_call callable_24 rfl rfl rfl rfl rfl rfl (balances_any A X q w.heap.size [] _ w w32 hn hG hWi) (fun e34 w35 hp36 => ?_)
    obtain ⟨x1, j1, rfl, hr1, hWa⟩ := hp36
    refine ⟨_, rfl, ?_⟩
    refine rl_v rfl rfl rfl (ov_move rfl rfl) <| rl_v rfl rfl rfl (ov_extract rfl rfl (by rfl)) ?_
    refine rl_v rfl rfl rfl (ov_extract rfl rfl (by rfl)) ?_
    refine rl_v rfl rfl rfl (ov_assign rfl rfl) <| rl_v rfl rfl rfl (ov_assign rfl rfl) <| rl_nil <| run_seq <| run_region <| rl_v rfl rfl rfl (ov_move rfl rfl) <| rl_v rfl rfl rfl (ov_move rfl rfl) ?_
    refine rl_call callable_16 rfl rfl rfl rfl rfl rfl (free_any A X q w.heap.size [] _ w w35 hn hG hWa) (fun e37 w38 hp39 => ?_)
    obtain ⟨x2, j2, rfl, hr2, hWb⟩ := hp39
    refine ⟨_, rfl, ?_⟩
    obtain ⟨t1, y1, rfl⟩ := hr1.val
    obtain ⟨t2, y2, rfl⟩ := hr2.val
    obtain ⟨g1, hg1⟩ := hr1.addr
    obtain ⟨g2, hg2⟩ := hr2.addr
    refine rl_v rfl rfl rfl (ov_move rfl rfl) <| rl_v rfl rfl rfl (ov_extract rfl rfl (by rfl)) ?_
    refine rl_v rfl rfl rfl (ov_extract rfl rfl (by rfl)) ?_
    refine rl_v rfl rfl rfl (ov_assign rfl rfl) <| rl_v rfl rfl rfl (ov_assign rfl rfl) <| rl_nil <| run_seq <| run_seq <| run_region <| rl_v rfl rfl rfl (ov_move rfl rfl) <| rl_v rfl rfl rfl (ov_neq rfl rfl rfl) <| rl_v rfl rfl rfl (ov_move rfl rfl) ?_
    first | refine rl_noD 68 rfl (fun h => h rfl) ?_ | refine rl_no 68 rfl (fun h => h rfl) ?_
    refine rl_gv rfl rfl rfl rfl rfl (ov_move rfl rfl) <| rl_gv rfl rfl rfl rfl rfl (ov_neq rfl rfl rfl) <| rl_v rfl rfl rfl (ov_pick_f rfl rfl rfl) <| rl_nil ?_
    first | refine run_cond_dec rfl (fun bad => ?_) (fun ok => ?_) | refine run_cond rfl (fun bad => ?_) (fun ok => ?_)
    ·exfalso; exact bad rfl
    ·refine run_skip <| run_seq <| run_region <| rl_v rfl rfl rfl (ov_assign rfl rfl) <| rl_nil <| run_block <| Run.keep [5, 6, 11, 12, 14, 16] (F' := [(5, _), (6, _), (11, _), (12, _), (14, _), (16, _)]) rfl <| run_loop5 (fun (i : Int) (d1 : Option Blk) (d2 : Option Blk) (H1 : Int → Value) (H2 : Int → Value) => [(16, .int .i64 i)]) [5, 6, 11, 12, 14] (fun (i : Int) (d1 : Option Blk) (d2 : Option Blk) (H1 : Int → Value) (H2 : Int → Value) (w40 : World) => 0 ≤ i ∧ i ≤ (X.fst q).length ∧ IRow (.slice t1 (X.fst q).length y1) 2 (X.fst q).length H1 d1 ∧ IRow (.slice t2 (X.fst q).length y2) 2 (X.fst q).length H2 d2 ∧ WAt w.heap.size w w40 A X [] (d2 :: d1 :: some (lch b6 69 (rwl X K)) :: R6)) (fun (i : Int) (d1 : Option Blk) (d2 : Option Blk) (H1 : Int → Value) (H2 : Int → Value) => (((X.fst q).length : Int) - i).toNat) (0) (j1) (j2) (fun i => iv (X.bal q i)) (fun i => iv (X.free q i)) ?_ (And.intro (by exact slot_int rfl (by first | omega)) (And.intro rfl (And.intro rfl (And.intro rfl (And.intro rfl (And.intro rfl trivial)))))) ?_
     ·exact ⟨by omega, by omega, hr1, hr2, hWb⟩
     intro i d1 d2 H1 H2 w40 hIw40 ih41
     obtain ⟨hi0, hi1, hu1, hu2, hWj⟩ := hIw40
     show Run _ _ _ _ [(16, _), (5, _), (6, _), (11, _), (12, _), (14, _)] _ _
     obtain ⟨Kx, Nx, hOx, hKx, hPx⟩ := hWj.fr
     refine run_seq <| run_seq <| run_region_join 81 (.bool (decide ((i < (X.fst q).length)))) [5, 6, 11, 12, 14, 16] (fun hk42 => ?_) ?_
     ·refine rl_v rfl rfl rfl (ov_move rfl rfl) <| rl_v rfl rfl rfl (ov_move rfl rfl) <| rl_v rfl rfl rfl (ov_len rfl Try.underlying22 rfl) <| rl_v rfl rfl rfl (ov_lss rfl rfl rfl) <| rl_v rfl rfl rfl (ov_move rfl rfl) ?_
      first | refine rl_split_dec 76 rfl (fun hg43 => ?_) (fun hg43 => ?_) | refine rl_split 76 rfl (fun hg43 => ?_) (fun hg43 => ?_)
      ·refine rl_gv rfl rfl rfl rfl rfl (ov_move rfl rfl) <| rl_gv rfl rfl rfl rfl rfl (ov_move rfl rfl) <| rl_gv rfl rfl rfl rfl rfl (ov_len rfl Try.underlying22 rfl) <| rl_gv rfl rfl rfl rfl rfl (ov_lss rfl rfl rfl) <| rl_v rfl rfl rfl (ov_pick_t rfl rfl rfl) ?_
       refine rl_nil (hk42 _ (jbd rfl (by omega)) (And.intro rfl (And.intro rfl (And.intro rfl (And.intro rfl (And.intro rfl (And.intro rfl trivial)))))))
      ·refine rl_gskip rfl rfl rfl rfl rfl rfl <| rl_gskip rfl rfl rfl rfl rfl rfl <| rl_gskip rfl rfl rfl rfl rfl rfl <| rl_gskip rfl rfl rfl rfl rfl rfl <| rl_v rfl rfl rfl (ov_pick_f rfl rfl rfl) ?_
       refine rl_nil (hk42 _ (jbf rfl (by omega)) (And.intro rfl (And.intro rfl (And.intro rfl (And.intro rfl (And.intro rfl (And.intro rfl trivial)))))))
     ·show Run _ _ _ _ [(81, _), (5, _), (6, _), (11, _), (12, _), (14, _), (16, _)] _ _
      first | refine run_cond_dec rfl (fun hlt => ?_) (fun hlt => ?_) | refine run_cond rfl (fun hlt => ?_) (fun hlt => ?_)
      ·refine run_skip <| run_seq <| run_block <| run_seq <| run_region <| rl_v rfl rfl rfl (ov_move rfl rfl) <| rl_v rfl rfl rfl (ov_move rfl rfl) <| rl_v rfl rfl rfl (ov_index1 rfl Try.underlying22 (by kernel_rfl) rfl rfl ⟨by omega, by omega⟩ (by exact (hg1 (by omega)))) ?_
       refine rl_ow rfl (ow_storeI1 rfl rfl (by kernel_rfl) hOx 1 hu1 rfl hg1 rfl ⟨by omega, by omega⟩ rfl rfl) ?_
       rintro _ w44 ⟨e1, rfl, hO45, hx1, hs46⟩
       refine rl_nil <| run_region <| rl_v rfl rfl rfl (ov_move rfl rfl) <| rl_v rfl rfl rfl (ov_move rfl rfl) <| rl_v rfl rfl rfl (ov_index1 rfl Try.underlying22 (by kernel_rfl) rfl rfl ⟨by omega, by omega⟩ (by exact (hg2 (by omega)))) ?_
       refine rl_ow rfl (ow_storeI1 rfl rfl (by kernel_rfl) hO45 0 hu2 rfl hg2 rfl ⟨by omega, by omega⟩ rfl rfl) ?_
       rintro _ w47 ⟨e2, rfl, hO48, hx2, hs49⟩
       have hWz := WAt.unfr (R := _ :: _ :: _ :: R6) hO48 hKx hPx
       refine rl_nil <| run_inBlock <| run_region <| rl_v rfl rfl rfl (ov_move rfl rfl) <| rl_v rfl rfl rfl (ov_add rfl rfl rfl (by omega)) ?_
       refine rl_v rfl rfl rfl (ov_assign rfl rfl) <| rl_nil ?_
       refine Run.use (ih41 (i + 1) (e1) (e2) (upd H1 i (iv (-1))) (upd H2 i (iv (-1))) _ ?_ ?_) (And.intro (by exact slot_int rfl (by first | omega)) (And.intro rfl (And.intro rfl (And.intro rfl (And.intro rfl (And.intro rfl trivial))))))
       ·first | omega | (dsimp only; omega)
       ·exact ⟨by omega, by omega, hx1, hx2, hWz⟩
      ·have hWz := hWj.drop.drop
       refine run_exit rfl <| run_inBlock <| run_region <| rl_v rfl rfl rfl (ov_move rfl rfl) <| rl_v rfl rfl rfl (ov_add rfl rfl rfl (by omega)) ?_
       refine rl_v rfl rfl rfl (ov_assign rfl rfl) <| rl_nil ?_
       refine Run.use (ih33 _ _ ?_ ?_) (And.intro (by rfl) (And.intro rfl (And.intro rfl trivial)))
       ·first | omega | (dsimp only; omega)
       ·exact ⟨by omega, by omega, hWz⟩
   ·obtain ⟨Kx, Nx, hOx, hKx, hPx⟩ := hWi.fr
    refine run_exit rfl <| run_seq <| run_region <| rl_v rfl rfl rfl (ov_move rfl rfl) <| rl_v rfl rfl rfl (ov_loadW rfl Try.underlying69 rfl (by kernel_rfl) rfl hOx 0 rfl) ?_
    refine rl_call callable_41 rfl rfl rfl rfl rfl rfl (shows_any A X K w.heap.size R6 _ w w32 hG hL (by omega) (mem_c1 (fun x h => h)) hK hWi) (fun e50 w51 hp52 => ?_)
    obtain ⟨rfl, hWs⟩ := hp52
    refine ⟨_, rfl, ?_⟩
    refine rl_v rfl rfl rfl (ov_move rfl rfl) ?_
    first | refine rl_yesD 93 rfl (rfl) ?_ | refine rl_yes 93 rfl (rfl) ?_
    refine rl_gcall callable_20 rfl rfl rfl rfl rfl rfl rfl rfl (awake_any w.heap.size _ w w51 hWs.own) (fun e53 w54 hp55 => ?_)
    obtain ⟨rfl, hOe⟩ := hp55
    refine ⟨_, rfl, ?_⟩
    refine rl_v rfl rfl rfl (ov_pick_t rfl rfl rfl) <| rl_v rfl rfl rfl (ov_assign rfl rfl) <| rl_nil <| run_ret Try.func10 (res1 Try.results10 rfl) ?_
    exact ⟨rfl, hOe.below⟩
end Go.Proofs.Yteagflekbbchhaa
