import Derived.Test.YtfbbagnpdfafjaaHcR
import Derived.Test.YtfbbagnpdfafjaaEff
import Derived.Test.YtfbbagnpdfafjaaTab
import Derived.Test.YtfbbagnpdfafjaaChecked
import Derived.Test.YtfbbagnpdfafjaaRows
import Derived.ProofKit
import Derived.SizedLaws
import Derived.Deep.Modes
import Derived.Deep.Frames
import Derived.Deep.Matrix
import Derived.Carry
import Derived.Lib.SmallJoins
set_option maxRecDepth 100000
namespace Go.Proofs.Ytfbbagnpdfafjaa
open Go.RowKit Go.Proofs
set_option maxHeartbeats 2000000 in
theorem own9_any (mm mn : Int) (pa ma la : Option Addr) (pn pc mk mc ln lc : Nat) (rt cp : Int) (P0 : Int → Int) (L0 : Int → Nat) (F0 : Int → Int → Int) (S : HActs) (w : World) (hP : IAt w.heap.size w pa pn (fun i => iv (P0 i))) (hT : ITab w.heap.size w ma mk L0 (fun r c => iv (F0 r c))) (hS : SAt w.heap.size w la 7 ln S.l) :
  Calls Try.prog 9 #[.agg (cfL mm mn pa pn pc ma mk mc rt cp).toArray, .slice la ln lc] w fun e w' => e = .returned (.bool true) ∧ Below w.heap.size w w' := by
 refine calls_of_run (F := [(0, _), (1, _)]) Try.func9 rfl Try.ntmps9 rfl rfl <| run_seq <| run_region <| rl_ow rfl (ow_box _ rfl rfl rfl rfl rfl (Own.init w)) ?_
 rintro _ w1 ⟨b2, rfl, hO2, hs3⟩
 refine rl_v rfl rfl rfl (ov_assign rfl rfl) <| rl_nil <| run_seq <| run_region <| rl_v rfl rfl rfl (ov_loadW rfl Try.underlying25 rfl (by kernel_rfl) rfl hO2 0 rfl) ?_
 refine rl_call callable_15 rfl rfl rfl rfl rfl rfl (tame_any mm mn pa ma pn pc mk mc rt cp P0 L0 F0 w.heap.size _ w w1 hO2 hP hT) (fun e4 w5 hp6 => ?_)
 obtain ⟨mem, mon, pa2, ma2, pc2, k2, mc2, P, F, rate, cap, N, rfl, hC, hO2⟩ := hp6
 refine ⟨_, rfl, ?_⟩
 have hmem := hC.hmem
 have hmon := hC.hmon
 refine rl_v rfl rfl rfl (ov_move rfl rfl) ?_
 refine rl_call callable_16 rfl rfl rfl rfl rfl rfl (run_any mem mon pa2 ma2 la pc2 k2 mc2 ln lc P F rate cap 25 S N w.heap.size _ w w5 hO2 (List.sublist_append_left _ _) hC hS (by decide)) (fun e7 w8 hp9 => ?_)
 obtain ⟨hb, X, T, L, rfl, ⟨hX, hsm⟩, hI, hH0⟩ := hp9
 refine ⟨_, rfl, ?_⟩
 have hXG := hX.gg (by omega)
 have hG := hXG.g
 have hm64 := hG.mem
 have hk64 := hG.k
 have hmn := X.mn_eq hXG.mo
 have hmo12 := hG.mo
 obtain ⟨RR, hRR⟩ : ∃ RR, RR = T ++ (N ++ [some (lch b2 25 (cfL mm mn pa pn pc ma mk mc rt cp))]) := ⟨_, rfl⟩
 have hsI : (T ++ N).Sublist RR := by rw [hRR]; exact List.Sublist.append_left (List.sublist_append_left _ _) T
 replace hH0 : HAt w.heap.size w w8 hb X [] RR := by rw [hRR]; exact hH0
 clear hRR
 obtain ⟨K1, N1, hO3, hK1, hP1⟩ := hH0.open
 refine rl_v rfl rfl rfl (ov_move rfl rfl) <| rl_v rfl rfl rfl (ov_extract rfl rfl (by rfl)) ?_
 refine rl_v rfl rfl rfl (ov_extract rfl rfl (by rfl)) ?_
 refine rl_ow rfl (ow_alloc _ rfl rfl rfl zero_34 rfl hO3) ?_
 rintro _ w10 ⟨b6, rfl, hO11, hs12⟩
 refine rl_v rfl rfl rfl (ov_assign rfl rfl) <| rl_ow rfl (ow_storeW rfl rfl (by kernel_rfl) hO11 0 rfl rfl (by rfl) rfl (by rfl)) ?_
 rintro _ w13 ⟨rfl, hO14, hs15⟩
 have hH1 : HAt w.heap.size w w13 hb X [] (some (lch b6 34 (ghL X L)) :: RR) := HAt.puts [some (lch b6 34 (ghL X L))] hO14 hK1 hP1
 refine rl_nil <| run_seq <| run_seq <| run_region <| rl_v rfl rfl rfl (ov_move rfl rfl) <| rl_v rfl rfl rfl (ov_ptrnil rfl Try.underlying30 rfl) <| rl_nil <| run_cond_f rfl <| run_skip <| run_seq <| run_region <| rl_v rfl rfl rfl (ov_move rfl rfl) ?_
 refine rl_call callable_32 rfl rfl rfl rfl rfl rfl (calls_in hb w.heap.size X [] _ w w13 hH1 hG) (fun e16 w17 hp18 => ?_)
 obtain ⟨v, c, rfl, hr, hlen, hH2⟩ := hp18
 refine ⟨_, rfl, ?_⟩
 obtain ⟨a7, p7, rfl⟩ := hr.val
 refine rl_v rfl rfl rfl (ov_assign rfl rfl) <| rl_nil <| run_seq <| run_seq <| run_region <| rl_v rfl rfl rfl (ov_assign rfl rfl) <| rl_nil <| run_block <| Run.keep [5, 6, 7, 8] (F' := [(5, _), (6, _), (7, _), (8, _)]) rfl <| run_loop2 (fun (i : Int) (c : Option Blk) => [(8, .int .i64 i)]) [5, 6, 7] (fun (i : Int) (c : Option Blk) (w19 : World) => (0 ≤ i ∧ i ≤ (X.cls X.mem).length) ∧ ∃ g : Int → Value, IRow (.slice a7 (X.cls X.mem).length p7) 3 (X.cls X.mem).length g c ∧ HAt w.heap.size w w19 hb X [] (c :: some (lch b6 34 (ghL X L)) :: RR)) (fun (i : Int) (c : Option Blk) => (((X.cls X.mem).length : Int) - i).toNat) (0) (c) ?_ (And.intro (by exact slot_int rfl (by first | omega)) (And.intro rfl (And.intro rfl (And.intro rfl trivial)))) ?_
 ·exact ⟨by omega, _, hr, hH2⟩
 intro i c w19 hIw19 ih20
 obtain ⟨hi, g, hr, hH3⟩ := hIw19
 show Run _ _ _ _ [(8, _), (5, _), (6, _), (7, _)] _ _
 refine run_seq <| run_seq <| run_region <| rl_v rfl rfl rfl (ov_move rfl rfl) <| rl_v rfl rfl rfl (ov_move rfl rfl) <| rl_v rfl rfl rfl (ov_len rfl Try.underlying51 rfl) <| rl_v rfl rfl rfl (ov_lss rfl rfl rfl) <| rl_nil ?_
 first | refine run_cond_dec rfl (fun h1 => ?_) (fun h1 => ?_) | refine run_cond rfl (fun h1 => ?_) (fun h1 => ?_)
 ·obtain ⟨K2, N2, hO4, hK2, hP2⟩ := HAt.pull [c] [] hH3
  obtain ⟨q0, eq⟩ := hr.addr
  refine run_skip <| run_seq <| run_block <| run_region <| rl_v rfl rfl rfl (ov_move rfl rfl) <| rl_v rfl rfl rfl (ov_move rfl rfl) <| rl_v rfl rfl rfl (ov_index1 rfl Try.underlying51 (by kernel_rfl) rfl rfl ⟨by omega, by omega⟩ (by exact (id (eq (by omega))))) ?_
  refine rl_ow rfl (ow_storeI1 rfl rfl (by kernel_rfl) hO4 0 hr rfl eq rfl ⟨by omega, by omega⟩ rfl rfl) ?_
  rintro _ w21 ⟨c9, rfl, hO22, hR2, hs23⟩
  refine rl_nil <| run_inBlock <| run_region <| rl_v rfl rfl rfl (ov_move rfl rfl) <| rl_v rfl rfl rfl (ov_add rfl rfl rfl (by omega)) ?_
  refine rl_v rfl rfl rfl (ov_assign rfl rfl) <| rl_nil ?_
  refine Run.use (ih20 (i + 1) (c9) _ ?_ ?_) (And.intro (by exact slot_int rfl (by first | omega)) (And.intro rfl (And.intro rfl (And.intro rfl trivial))))
  ·first | omega | (dsimp only; omega)
  ·exact ⟨by omega, _, hR2, HAt.puts [c9] hO22 hK2 hP2⟩
 ·have hH4 := hH3.shed
  refine run_exit rfl <| run_seq <| run_seq <| run_region <| rl_v rfl rfl rfl (ov_assign rfl rfl) <| rl_nil <| run_block <| Run.keep [5, 6, 9] (F' := [(5, _), (6, _), (9, _)]) rfl <| run_loop1 (fun (i : Int) => [(9, .int .i64 i)]) [5, 6] (fun (i : Int) (w24 : World) => (1 ≤ i ∧ i ≤ (X.mem : Int) + 1) ∧ HAt w.heap.size w w24 hb X [] (some (lch b6 34 (ghL X L)) :: RR)) (fun (i : Int) => ((X.mem : Int) + 1 - i).toNat) (1) ?_ (And.intro (by exact slot_int rfl (by first | omega)) (And.intro rfl (And.intro rfl trivial))) ?_
  ·exact ⟨by omega, hH4⟩
  intro i w24 hIw24 ih25
  obtain ⟨hi, hH5⟩ := hIw24
  show Run _ _ _ _ [(9, _), (5, _), (6, _)] _ _
  refine run_seq <| run_seq <| run_region <| rl_v rfl rfl rfl (ov_move rfl rfl) <| rl_v rfl rfl rfl (ov_fieldS rfl Try.underlying34 rfl (fo := 7) rfl (by kernel_rfl) rfl) ?_
  refine rl_v rfl rfl rfl (ov_load rfl Try.underlying31 rfl rfl (by exact (hH5.own).cellL 0 rfl (off := 7) rfl)) ?_
  refine rl_v rfl rfl rfl (ov_len rfl Try.underlying31 rfl) <| rl_v rfl rfl rfl (ov_leq rfl rfl rfl) <| rl_nil ?_
  first | refine run_cond_dec rfl (fun h2 => ?_) (fun h2 => ?_) | refine run_cond rfl (fun h2 => ?_) (fun h2 => ?_)
  ·refine run_skip <| run_seq <| run_block <| run_seq <| run_region <| rl_v rfl rfl rfl (ov_move rfl rfl) <| rl_v rfl rfl rfl (ov_move rfl rfl) ?_
   refine rl_call callable_31 rfl rfl rfl rfl rfl rfl (account_in hb w.heap.size X [] _ w w24 hH5 hG i ⟨by omega, by omega⟩) (fun e26 w27 hp28 => ?_)
   obtain ⟨va, ca, rfl, hra, hH6⟩ := hp28
   refine ⟨_, rfl, ?_⟩
   obtain ⟨aa, pa9, rfl⟩ := hra.val
   obtain ⟨K3, N3, hO5, hK3, hP3⟩ := hH6.open
   refine rl_v rfl rfl rfl (ov_move rfl rfl) <| rl_v rfl rfl rfl (ov_extract rfl rfl (by rfl)) ?_
   refine rl_v rfl rfl rfl (ov_extract rfl rfl (by rfl)) ?_
   refine rl_ow rfl (ow_alloc _ rfl rfl rfl zero_64 rfl hO5) ?_
   rintro _ w29 ⟨b10, rfl, hO30, hs31⟩
   refine rl_ow rfl (ow_storeW rfl rfl (by kernel_rfl) hO30 0 rfl rfl (by rfl) rfl (by rfl)) ?_
   rintro _ w32 ⟨rfl, hO33, hs34⟩
   have hH7 : HAt w.heap.size w w32 hb X [] (some (lch b10 64 [iv (X.acct i).cash, iv (X.acct i).fund, .slice aa X.mn pa9, .bool (X.acct i).out]) :: ca :: some (lch b6 34 (ghL X L)) :: RR) := HAt.puts [some (lch b10 64 [iv (X.acct i).cash, iv (X.acct i).fund, .slice aa X.mn pa9, .bool (X.acct i).out])] hO33 hK3 hP3
   refine rl_v rfl rfl rfl (ov_assign rfl rfl) <| rl_nil <| run_seq <| run_seq <| run_region <| rl_v rfl rfl rfl (ov_move rfl rfl) <| rl_v rfl rfl rfl (ov_neq rfl rfl rfl) <| rl_nil ?_
   first | refine run_cond_dec rfl (fun bad => ?_) (fun bad => ?_) | refine run_cond rfl (fun bad => ?_) (fun bad => ?_)
   ·exfalso; exact bad rfl
   ·refine run_skip <| run_seq <| run_region <| rl_v rfl rfl rfl (ov_assign rfl rfl) <| rl_nil <| run_block <| Run.keep [5, 6, 9, 10, 12] (F' := [(5, _), (6, _), (9, _), (10, _), (12, _)]) rfl <| run_loop2 (fun (m : Int) (c : Option Blk) => [(12, .int .i64 m)]) [5, 6, 9, 10] (fun (m : Int) (c : Option Blk) (w35 : World) => (0 ≤ m ∧ m ≤ X.mn) ∧ ∃ g : Int → Value, IRow (.slice aa X.mn pa9) 2 X.mn g c ∧ HAt w.heap.size w w35 hb X [] (some (lch b10 64 [iv (X.acct i).cash, iv (X.acct i).fund, .slice aa X.mn pa9, .bool (X.acct i).out]) :: c :: some (lch b6 34 (ghL X L)) :: RR)) (fun (m : Int) (c : Option Blk) => ((X.mn : Int) - m).toNat) (0) (ca) ?_ (And.intro (by exact slot_int rfl (by first | omega)) (And.intro rfl (And.intro rfl (And.intro rfl (And.intro rfl trivial))))) ?_
    ·exact ⟨by omega, _, hra, hH7⟩
    intro m c w35 hIw35 ih36
    obtain ⟨hm, g, hr9, hH8⟩ := hIw35
    show Run _ _ _ _ [(12, _), (5, _), (6, _), (9, _), (10, _)] _ _
    refine run_seq <| run_seq <| run_region <| rl_v rfl rfl rfl (ov_move rfl rfl) <| rl_v rfl rfl rfl (ov_fieldS rfl Try.underlying64 rfl (fo := 2) rfl (by kernel_rfl) rfl) ?_
    refine rl_v rfl rfl rfl (ov_load rfl Try.underlying22 rfl rfl (by exact (hH8.own).cellL 0 rfl (off := 2) rfl)) ?_
    refine rl_v rfl rfl rfl (ov_len rfl Try.underlying22 rfl) <| rl_v rfl rfl rfl (ov_lss rfl rfl rfl) <| rl_nil ?_
    first | refine run_cond_dec rfl (fun h3 => ?_) (fun h3 => ?_) | refine run_cond rfl (fun h3 => ?_) (fun h3 => ?_)
    ·obtain ⟨K4, N4, hO6, hK4, hP4⟩ := HAt.pull [some (lch b10 64 [iv (X.acct i).cash, iv (X.acct i).fund, .slice aa X.mn pa9, .bool (X.acct i).out]), c] [] hH8
     obtain ⟨q0, eq⟩ := hr9.addr
     refine run_skip <| run_seq <| run_block <| run_region <| rl_v rfl rfl rfl (ov_fieldS rfl Try.underlying64 rfl (fo := 2) rfl (by kernel_rfl) rfl) ?_
     refine rl_v rfl rfl rfl (ov_load rfl Try.underlying22 rfl rfl (by exact hO6.cellL 0 rfl (off := 2) rfl)) ?_
     refine rl_v rfl rfl rfl (ov_move rfl rfl) <| rl_v rfl rfl rfl (ov_index1 rfl Try.underlying22 (by kernel_rfl) rfl rfl ⟨by omega, by omega⟩ (by exact (id (eq (by omega))))) ?_
     refine rl_ow rfl (ow_storeI1 rfl rfl (by kernel_rfl) hO6 1 hr9 rfl eq rfl ⟨by omega, by omega⟩ rfl rfl) ?_
     rintro _ w37 ⟨c9, rfl, hO38, hR2, hs39⟩
     refine rl_nil <| run_inBlock <| run_region <| rl_v rfl rfl rfl (ov_move rfl rfl) <| rl_v rfl rfl rfl (ov_add rfl rfl rfl (by omega)) ?_
     refine rl_v rfl rfl rfl (ov_assign rfl rfl) <| rl_nil ?_
     refine Run.use (ih36 (m + 1) (c9) _ ?_ ?_) (And.intro (by exact slot_int rfl (by first | omega)) (And.intro rfl (And.intro rfl (And.intro rfl (And.intro rfl trivial)))))
     ·first | omega | (dsimp only; omega)
     ·exact ⟨by omega, _, hR2, HAt.puts [some (lch b10 64 [iv (X.acct i).cash, iv (X.acct i).fund, .slice aa X.mn pa9, .bool (X.acct i).out]), c9] hO38 hK4 hP4⟩
    ·refine run_exit rfl <| run_inBlock <| run_region <| rl_v rfl rfl rfl (ov_move rfl rfl) <| rl_v rfl rfl rfl (ov_add rfl rfl rfl (by omega)) ?_
     refine rl_v rfl rfl rfl (ov_assign rfl rfl) <| rl_nil ?_
     refine Run.use (ih25 (i + 1) _ ?_ ?_) (And.intro (by exact slot_int rfl (by first | omega)) (And.intro rfl (And.intro rfl trivial)))
     ·first | omega | (dsimp only; omega)
     ·exact ⟨by omega, hH8.shed.shed⟩
  ·refine run_exit rfl <| run_seq <| run_seq <| run_region <| rl_v rfl rfl rfl (ov_assign rfl rfl) <| rl_nil <| run_block <| Run.keep [5, 6, 13] (F' := [(5, _), (6, _), (13, _)]) rfl <| run_loop1 (fun (s : Int) => [(13, .int .i64 s)]) [5, 6] (fun (s : Int) (w40 : World) => (0 ≤ s ∧ s ≤ X.k) ∧ HAt w.heap.size w w40 hb X [] (some (lch b6 34 (ghL X L)) :: RR)) (fun (s : Int) => ((X.k : Int) - s).toNat) (0) ?_ (And.intro (by exact slot_int rfl (by first | omega)) (And.intro rfl (And.intro rfl trivial))) ?_
   ·exact ⟨by omega, hH5⟩
   intro s w40 hIw40 ih41
   obtain ⟨hsi, hH6⟩ := hIw40
   show Run _ _ _ _ [(13, _), (5, _), (6, _)] _ _
   refine run_seq <| run_seq <| run_region <| rl_v rfl rfl rfl (ov_move rfl rfl) <| rl_v rfl rfl rfl (ov_fieldS rfl Try.underlying34 rfl (fo := 0) rfl (by kernel_rfl) rfl) ?_
   refine rl_v rfl rfl rfl (ov_fieldS rfl Try.underlying25 rfl (fo := 3) rfl (by kernel_rfl) rfl) ?_
   refine rl_v rfl rfl rfl (ov_load rfl Try.underlying23 rfl rfl (by exact (hH6.own).cellL 0 rfl (off := 3) rfl)) ?_
   refine rl_v rfl rfl rfl (ov_len rfl Try.underlying23 rfl) <| rl_v rfl rfl rfl (ov_lss rfl rfl rfl) <| rl_nil ?_
   first | refine run_cond_dec rfl (fun h4 => ?_) (fun h4 => ?_) | refine run_cond rfl (fun h4 => ?_) (fun h4 => ?_)
   ·refine run_skip <| run_seq <| run_block <| run_seq <| run_region <| rl_v rfl rfl rfl (ov_move rfl rfl) <| rl_v rfl rfl rfl (ov_move rfl rfl) ?_
    refine rl_call callable_40 rfl rfl rfl rfl rfl rfl (stress_in hb w.heap.size X [] _ w w40 hH6 hG s ⟨by omega, by omega⟩) (fun e42 w43 hp44 => ?_)
    obtain ⟨vs, cs, rfl, hrs, hH7⟩ := hp44
    refine ⟨_, rfl, ?_⟩
    obtain ⟨as4, ps, rfl⟩ := hrs.val
    refine rl_v rfl rfl rfl (ov_move rfl rfl) <| rl_v rfl rfl rfl (ov_extract rfl rfl (by rfl)) ?_
    refine rl_v rfl rfl rfl (ov_extract rfl rfl (by rfl)) ?_
    refine rl_v rfl rfl rfl (ov_assign rfl rfl) <| rl_v rfl rfl rfl (ov_assign rfl rfl) <| rl_nil <| run_seq <| run_seq <| run_region <| rl_v rfl rfl rfl (ov_move rfl rfl) <| rl_v rfl rfl rfl (ov_neq rfl rfl rfl) <| rl_nil ?_
    first | refine run_cond_dec rfl (fun bad => ?_) (fun bad => ?_) | refine run_cond rfl (fun bad => ?_) (fun bad => ?_)
    ·exfalso; exact bad rfl
    ·refine run_skip <| run_seq <| run_region <| rl_v rfl rfl rfl (ov_assign rfl rfl) <| rl_nil <| run_block <| Run.keep [5, 6, 13, 14, 16] (F' := [(5, _), (6, _), (13, _), (14, _), (16, _)]) rfl <| run_loop2 (fun (k : Int) (c : Option Blk) => [(16, .int .i64 k)]) [5, 6, 13, 14] (fun (k : Int) (c : Option Blk) (w45 : World) => (0 ≤ k ∧ k ≤ X.mem) ∧ ∃ g : Int → Value, IRow (.slice as4 X.mem ps) 2 X.mem g c ∧ HAt w.heap.size w w45 hb X [] (c :: some (lch b6 34 (ghL X L)) :: RR)) (fun (k : Int) (c : Option Blk) => ((X.mem : Int) - k).toNat) (0) (cs) ?_ (And.intro (by exact slot_int rfl (by first | omega)) (And.intro rfl (And.intro rfl (And.intro rfl (And.intro rfl trivial))))) ?_
     ·exact ⟨by omega, _, hrs, hH7⟩
     intro k c w45 hIw45 ih46
     obtain ⟨hk9, g, hr9, hH8⟩ := hIw45
     show Run _ _ _ _ [(16, _), (5, _), (6, _), (13, _), (14, _)] _ _
     refine run_seq <| run_seq <| run_region <| rl_v rfl rfl rfl (ov_move rfl rfl) <| rl_v rfl rfl rfl (ov_move rfl rfl) <| rl_v rfl rfl rfl (ov_len rfl Try.underlying22 rfl) <| rl_v rfl rfl rfl (ov_lss rfl rfl rfl) <| rl_nil ?_
     first | refine run_cond_dec rfl (fun h5 => ?_) (fun h5 => ?_) | refine run_cond rfl (fun h5 => ?_) (fun h5 => ?_)
     ·obtain ⟨K4, N4, hO6, hK4, hP4⟩ := HAt.pull [c] [] hH8
      obtain ⟨q0, eq⟩ := hr9.addr
      refine run_skip <| run_seq <| run_block <| run_region <| rl_v rfl rfl rfl (ov_move rfl rfl) <| rl_v rfl rfl rfl (ov_move rfl rfl) <| rl_v rfl rfl rfl (ov_index1 rfl Try.underlying22 (by kernel_rfl) rfl rfl ⟨by omega, by omega⟩ (by exact (id (eq (by omega))))) ?_
      refine rl_ow rfl (ow_storeI1 rfl rfl (by kernel_rfl) hO6 0 hr9 rfl eq rfl ⟨by omega, by omega⟩ rfl rfl) ?_
      rintro _ w47 ⟨c9, rfl, hO48, hR2, hs49⟩
      refine rl_nil <| run_inBlock <| run_region <| rl_v rfl rfl rfl (ov_move rfl rfl) <| rl_v rfl rfl rfl (ov_add rfl rfl rfl (by omega)) ?_
      refine rl_v rfl rfl rfl (ov_assign rfl rfl) <| rl_nil ?_
      refine Run.use (ih46 (k + 1) (c9) _ ?_ ?_) (And.intro (by exact slot_int rfl (by first | omega)) (And.intro rfl (And.intro rfl (And.intro rfl (And.intro rfl trivial)))))
      ·first | omega | (dsimp only; omega)
      ·exact ⟨by omega, _, hR2, HAt.puts [c9] hO48 hK4 hP4⟩
     ·refine run_exit rfl <| run_inBlock <| run_region <| rl_v rfl rfl rfl (ov_move rfl rfl) <| rl_v rfl rfl rfl (ov_add rfl rfl rfl (by omega)) ?_
      refine rl_v rfl rfl rfl (ov_assign rfl rfl) <| rl_nil ?_
      refine Run.use (ih41 (s + 1) _ ?_ ?_) (And.intro (by exact slot_int rfl (by first | omega)) (And.intro rfl (And.intro rfl trivial)))
      ·first | omega | (dsimp only; omega)
      ·exact ⟨by omega, hH8.shed⟩
   ·refine run_exit rfl <| run_seq <| run_region <| rl_v rfl rfl rfl (ov_move rfl rfl) <| rl_v rfl rfl rfl (ov_loadW rfl Try.underlying34 rfl (by kernel_rfl) rfl (hH6.own) 0 rfl) ?_
    refine rl_call callable_35 rfl rfl rfl rfl rfl rfl (shows_any hb w.heap.size X L [] (T ++ N) _ w w40 hH6 hI (.cons _ hsI) hXG) (fun e50 w51 hp52 => ?_)
    obtain ⟨rfl, hH7⟩ := hp52
    refine ⟨_, rfl, ?_⟩
    refine rl_v rfl rfl rfl (ov_move rfl rfl) ?_
    first | refine rl_yesD 91 rfl (rfl) ?_ | refine rl_yes 91 rfl (rfl) ?_
    refine rl_gcall callable_21 rfl rfl rfl rfl rfl rfl rfl rfl (hH7.call1 (Q := fun e => e = _) (fun H hO _ => awake_any w.heap.size H w w51 hO)) (fun e53 w54 hp55 => ?_)
    obtain ⟨rfl, hH8⟩ := hp55
    refine ⟨_, rfl, ?_⟩
    refine rl_v rfl rfl rfl (ov_pick_t rfl rfl rfl) <| rl_v rfl rfl rfl (ov_assign rfl rfl) <| rl_nil <| run_ret Try.func9 (res1 Try.results9 rfl) ?_
    exact ⟨rfl, (hH8.own).below⟩
end Go.Proofs.Ytfbbagnpdfafjaa
set_option maxRecDepth 100000
namespace Go.Proofs.Ytfbbagnpdfafjaa
open Go.Joins Go.ChangeShapes Go.WideShapes Go.ChangeAt Go.RowKit Go.Deep Go.Proofs
theorem Try.own : ownKnob Try.prog.godebug = none := by kernel_rfl
theorem Try.laidOut : laidOutB Try.prog = true := by kernel_rfl
theorem cell_lt {w : World} {b off : Nat} {v : Value} (h : w.cell? ⟨b, off, none⟩ = some v) : b < w.heap.size := by
 by_cases hb : b < w.heap.size
 ·exact hb
 ·have : w.heap[b]? = none := by simp; omega
  simp [World.cell?, this] at h
theorem iat_of {W : World} (a : Addr) (n : Nat) (f : Nat → Value) (h : ∀ i, i < n → W.cell? (a.add i) = some (f i)) : IAt W.heap.size W (some a) n (fun i => f i.toNat) := by
 by_cases hn : n = 0
 ·subst hn; exact IAt.nil _ _ _ _
 ·obtain ⟨b, o, s⟩ := a
  have hs : s = none := by simpa [Addr.add] using World.cell?_spot (h 0 (by omega))
  subst hs
  refine ⟨b, o, fun _ => rfl, fun _ => ?_, fun i hi => ?_⟩
  ·have := h 0 (by omega)
   rw [Addr.add_mid] at this
   exact cell_lt this
  ·have := h i hi
   rw [Addr.add_mid] at this
   exact this
theorem open_row0 {H : Type} {enc : TypeId × Value → H} {W : World} {v : Value} {y : DataW H × List MemPlace} {fuel : Nat} (hf : DataW.trod enc Try.prog W 0 (fun _ => true) true fuel 22 [v] = some y) :
  ∃ (ao : Option Addr) (n c : Nat) (g : Int → Int), v = .slice ao n c ∧ n ≤ c ∧ IAt W.heap.size W ao n (fun i => .int .i64 (g i)) := by
 rcases open_ints Try.underlying22 Try.underlying2 (by kernel_rfl) hf with ⟨hcs, hx⟩ | ⟨a, len, cap, zs, hcs, _, hl, hm, hz, hx, hc, _⟩
 ·have hv : v = .slice none 0 0 := by
   simpa using hcs
  exact ⟨none, 0, 0, fun _ => 0, hv, Nat.le_refl _, IAt.nil _ _ _ _⟩
 ·have hv : v = .slice (some a) len cap := by
   simpa using hcs
  simp only [if_true] at hz
  exact ⟨some a, len, cap, fun i => zs.getD i.toNat 0, hv, hl, iat_of a len (fun i => .int .i64 (zs.getD i 0)) (fun i hi => hc i (by omega))⟩
end Go.Proofs.Ytfbbagnpdfafjaa
