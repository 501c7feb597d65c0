import Derived.Test.YtfbbagnpdfafjaaHaZ
set_option maxRecDepth 100000
namespace Go.Proofs.Ytfbbagnpdfafjaa
open Go.RowKit Go.Proofs
structure GK where
 cm : Int
 cn : Int
 ccap : Int
 pa0 : Option Addr
 pn0 : Nat
 pc0 : Nat
 ma : Option Addr
 mc : Nat
 pa : Option Addr
 pc : Nat
 aa : Option Addr
 ac : Nat
 ca : Option Addr
 cc : Nat
 qa : Int → Option Addr
 qc : Int → Nat
 va : Int → Option Addr
 vc : Int → Nat
def HM.mn (X : HM) : Nat := X.mo.toNat
def ghL (X : HM) (K : GK) : List Value := [iv K.cm, iv K.cn, .slice K.pa0 K.pn0 K.pc0, .slice K.ma X.k K.mc, iv X.rate, iv K.ccap, .slice K.pa X.mn K.pc, .slice K.aa X.mem K.ac, .slice K.ca X.n K.cc, iv X.cap, iv X.hole]
def gacL (a : HA) (q : Option Addr) (n c : Nat) : List Value := [iv a.cash, iv a.fund, .slice q n c, .bool a.out]
def SrcV (H : List (Option Blk)) (ao : Option Addr) (n : Nat) (G : Int → Value) : Prop := ∀ (B : Nat) (w0 w : World), Own B w0 w H → IAt w.heap.size w ao n G
theorem SrcV.sub {N M : List (Option Blk)} {ao : Option Addr} {n : Nat} {G : Int → Value} (h : SrcV N ao n G) (hs : N.Sublist M) : SrcV M ao n G := fun B w0 w hO => h B w0 w (hO.sub hs)
theorem SrcV.at {R : List (Option Blk)} {ao : Option Addr} {n : Nat} {G : Int → Value} (h : SrcV R ao n G) {B : Nat} {w0 w : World} (hO : Own B w0 w R) (hn : 0 < n) : ∃ b off, ao = some ⟨b, off, none⟩ ∧ ∀ {B : Nat} {w0 w : World}, Own B w0 w R → ∀ i : Int, 0 ≤ i → i < n → w.cell? ⟨b, off + i.toNat, none⟩ = some (G i) := by
 obtain ⟨b, off, e, _⟩ := (h B w0 w hO).open
 refine ⟨b, off, e hn, fun {B' w0' w'} hO' i i0 i1 => ?_⟩
 obtain ⟨b', off', e1, e2⟩ := (h B' w0' w' hO').open
 have e3 := e1 hn
 rw [e hn] at e3
 cases e3
 exact e2 w' (Below.refl _ _) i i0 i1
theorem SrcI.at {R : List (Option Blk)} {ao : Option Addr} {n : Nat} {g : Int → Int} (h : SrcI R ao n g) {B : Nat} {w0 w : World} (hO : Own B w0 w R) (hn : 0 < n) : ∃ b off, ao = some ⟨b, off, none⟩ ∧ ∀ {B : Nat} {w0 w : World}, Own B w0 w R → ∀ i : Int, 0 ≤ i → i < n → w.cell? ⟨b, off + i.toNat, none⟩ = some (iv (g i)) := SrcV.at (G := fun i => iv (g i)) h hO hn
theorem Src.at {R : List (Option Blk)} {ao : Option Addr} {s n : Nat} {G : Int → List Value} (h : Src R ao s n G) (hs : 0 < s) {B : Nat} {w0 w : World} (hO : Own B w0 w R) (hn : 0 < n) : ∃ b off, ao = some ⟨b, off, none⟩ ∧ ∀ {B : Nat} {w0 w : World}, Own B w0 w R → ∀ i : Int, 0 ≤ i → i < n → ∀ fo, fo < s → w.cell? ⟨b, off + i.toNat * s + fo, none⟩ = some ((G i).getD fo undef) := by
 obtain ⟨b, off, e, _⟩ := (h B w0 w hO).open hs
 refine ⟨b, off, e hn, fun {B' w0' w'} hO' i i0 i1 fo hf => ?_⟩
 obtain ⟨b', off', e1, e2⟩ := (h B' w0' w' hO').open hs
 have e3 := e1 hn
 rw [e hn] at e3
 cases e3
 exact e2 w' (Below.refl _ _) i i0 i1 fo hf
structure GIn (R : List (Option Blk)) (X : HM) (K : GK) : Prop where
 pv : SrcI R K.pa X.mn X.pr
 ms : SrcV R K.ma X.k (fun r => .slice (K.va r) X.mn (K.vc r))
 vv : ∀ i : Int, 0 ≤ i → i < X.k → SrcI R (K.va i) X.mn (X.mv i)
 av : Src R K.aa 4 X.mem (fun i => gacL (X.ac i) (K.qa i) X.mn (K.qc i))
 qv : ∀ i : Int, 0 ≤ i → i < X.mem → SrcI R (K.qa i) X.mn (X.ac i).pos
 cv : Src R K.ca 5 X.n (fun i => ctL (X.ct i))
structure GG (X : HM) : Prop where
 g : HG X
 mo : 1 ≤ X.mo
 fl : ∀ i : Int, 0 ≤ i → i < X.mem → ∀ m : Int, X.mo ≤ m → (X.ac i).pos m = 0
structure GW (X : HM) : Prop where
 mem : 1 ≤ X.mem ∧ X.mem ≤ 64
 mo : 0 ≤ X.mo ∧ X.mo ≤ 12
 mo1 : 1 ≤ X.mo
 k : X.k ≤ 64
 mv : ∀ i : Int, 0 ≤ i → i < X.k → Bd (X.mv i) 1000000
 rate : 0 ≤ X.rate ∧ X.rate ≤ 1000
 pos : ∀ i : Int, 0 ≤ i → i < X.mem → Bd (X.ac i).pos 1000000
 pbd : PBd X.pr
 fl : ∀ i : Int, 0 ≤ i → i < X.mem → ∀ m : Int, X.mo ≤ m → (X.ac i).pos m = 0
theorem GG.w {X : HM} (h : GG X) : GW X := ⟨h.g.mem, h.g.mo, h.mo, h.g.k, h.g.mv, h.g.rate, h.g.pos, h.g.pbd, h.fl⟩
theorem HM.mn_eq (X : HM) (h : 1 ≤ X.mo) : (X.mn : Int) = X.mo := Int.toNat_of_nonneg (by omega)
theorem sm_flat {f : Int → Int} {n : Int} (n0 : 0 ≤ n) (hf : ∀ m : Int, n ≤ m → f m = 0) : ∀ k : Nat, sm f (n + k) = sm f n
 | 0 => by rw [show n + ((0 : Nat) : Int) = n by omega]
 | k + 1 => by rw [show n + ((k + 1 : Nat) : Int) = n + k + 1 by omega, sm_succ f (by omega), sm_flat n0 hf k, hf (n + k) (by omega), Int.add_zero]
theorem sm_flat12 {f : Int → Int} {n : Int} (n0 : 0 ≤ n) (n1 : n ≤ 12) (hf : ∀ m : Int, n ≤ m → f m = 0) : sm f 12 = sm f n := by
 have := sm_flat n0 hf (12 - n).toNat
 rwa [show n + ((12 - n).toNat : Int) = 12 by omega] at this
theorem wst_mx (f : Int → Int) : ∀ k, (wstF f k).2 = mxF f k
 | 0 => rfl
 | k + 1 => by
  have := wst_mx f k
  unfold wstF mxF
  split
  ·show f k = _
   omega
  ·omega
theorem gMember_any (X : HM) (K : GK) (i : Int) (B : Nat) (H : List (Option Blk)) (w0 w : World) (hO : Own B w0 w H) :
  Calls Try.prog 36 #[.agg (ghL X K).toArray, iv i] w fun e w' => e = .returned (.bool (decide (X.is i))) ∧ Own B w0 w' H := by
 refine calls_of_run (F := [(0, _), (1, _)]) Try.func36 rfl Try.ntmps36 rfl rfl <| run_seq <| run_region <| rl_ow rfl (ow_box _ rfl rfl rfl rfl rfl hO) ?_
 rintro _ w1 ⟨b2, rfl, hO2, hs3⟩
 refine rl_v rfl rfl rfl (ov_assign rfl rfl) <| rl_nil <| run_seq <| run_region <| rl_v rfl rfl rfl (ov_move rfl rfl) <| rl_v rfl rfl rfl (ov_geq rfl rfl rfl) <| rl_v rfl rfl rfl (ov_move rfl rfl) ?_
 first | refine rl_split_dec 7 rfl (fun g1 => ?_) (fun g1 => ?_) | refine rl_split 7 rfl (fun g1 => ?_) (fun g1 => ?_)
 ·refine rl_gv rfl rfl rfl rfl rfl (ov_move rfl rfl) <| rl_gv rfl rfl rfl rfl rfl (ov_fieldS rfl Try.underlying34 rfl (fo := 7) rfl (by kernel_rfl) rfl) ?_
  refine rl_gv rfl rfl rfl rfl rfl (ov_load rfl Try.underlying31 rfl rfl (by exact hO2.cellL 0 rfl (off := 7) rfl)) ?_
  refine rl_gv rfl rfl rfl rfl rfl (ov_len rfl Try.underlying31 rfl) <| rl_gv rfl rfl rfl rfl rfl (ov_leq rfl rfl rfl) <| rl_v rfl rfl rfl (ov_pick_t rfl rfl rfl) <| rl_v rfl rfl rfl (ov_assign rfl rfl) <| rl_nil <| run_ret Try.func36 (res1 Try.results36 rfl) ?_
  exact ⟨by unfold HM.is; simp [g1], hO2.tail⟩
 ·refine rl_gskip rfl rfl rfl rfl rfl rfl <| rl_gskip rfl rfl rfl rfl rfl rfl <| rl_gskip rfl rfl rfl rfl rfl rfl <| rl_gskip rfl rfl rfl rfl rfl rfl <| rl_gskip rfl rfl rfl rfl rfl rfl <| rl_v rfl rfl rfl (ov_pick_f rfl rfl rfl) <| rl_v rfl rfl rfl (ov_assign rfl rfl) <| rl_nil <| run_ret Try.func36 (res1 Try.results36 rfl) ?_
  exact ⟨by unfold HM.is; simp [g1], hO2.tail⟩
theorem gMonth_any (X : HM) (K : GK) (m : Int) (B : Nat) (H : List (Option Blk)) (w0 w : World) (hO : Own B w0 w H) (hmo : 1 ≤ X.mo) :
  Calls Try.prog 37 #[.agg (ghL X K).toArray, iv m] w fun e w' => e = .returned (.bool (decide (X.hasM m))) ∧ Own B w0 w' H := by
 have hmn := X.mn_eq hmo
 refine calls_of_run (F := [(0, _), (1, _)]) Try.func37 rfl Try.ntmps37 rfl rfl <| run_seq <| run_region <| rl_ow rfl (ow_box _ rfl rfl rfl rfl rfl hO) ?_
 rintro _ w1 ⟨b2, rfl, hO2, hs3⟩
 refine rl_v rfl rfl rfl (ov_assign rfl rfl) <| rl_nil <| run_seq <| run_region <| rl_v rfl rfl rfl (ov_move rfl rfl) <| rl_v rfl rfl rfl (ov_geq rfl rfl rfl) <| rl_v rfl rfl rfl (ov_move rfl rfl) ?_
 first | refine rl_split_dec 7 rfl (fun g1 => ?_) (fun g1 => ?_) | refine rl_split 7 rfl (fun g1 => ?_) (fun g1 => ?_)
 ·refine rl_gv rfl rfl rfl rfl rfl (ov_move rfl rfl) <| rl_gv rfl rfl rfl rfl rfl (ov_fieldS rfl Try.underlying34 rfl (fo := 6) rfl (by kernel_rfl) rfl) ?_
  refine rl_gv rfl rfl rfl rfl rfl (ov_load rfl Try.underlying22 rfl rfl (by exact hO2.cellL 0 rfl (off := 6) rfl)) ?_
  refine rl_gv rfl rfl rfl rfl rfl (ov_len rfl Try.underlying22 rfl) <| rl_gv rfl rfl rfl rfl rfl (ov_lss rfl rfl rfl) <| rl_v rfl rfl rfl (ov_pick_t rfl rfl rfl) <| rl_v rfl rfl rfl (ov_assign rfl rfl) <| rl_nil <| run_ret Try.func37 (res1 Try.results37 rfl) ?_
  exact ⟨by rw [decide_eq_decide.2 (show (m < (X.mn : Int)) ↔ X.hasM m from ⟨fun h => ⟨g1, by omega⟩, fun h => by have := h.2; omega⟩)], hO2.tail⟩
 ·refine rl_gskip rfl rfl rfl rfl rfl rfl <| rl_gskip rfl rfl rfl rfl rfl rfl <| rl_gskip rfl rfl rfl rfl rfl rfl <| rl_gskip rfl rfl rfl rfl rfl rfl <| rl_gskip rfl rfl rfl rfl rfl rfl <| rl_v rfl rfl rfl (ov_pick_f rfl rfl rfl) <| rl_v rfl rfl rfl (ov_assign rfl rfl) <| rl_nil <| run_ret Try.func37 (res1 Try.results37 rfl) ?_
  exact ⟨by unfold HM.hasM; simp [g1], hO2.tail⟩
theorem gWorst_any (X : HM) (K : GK) (i : Int) (R : List (Option Blk)) (B : Nat) (H : List (Option Blk)) (w0 w : World) (hO : Own B w0 w H) (hK : GIn R X K) (hs : R.Sublist H) (hX : GW X) (hi : 1 ≤ i ∧ i ≤ X.mem) :
  Calls Try.prog 83 #[.agg (ghL X K).toArray, iv i] w fun e w' => e = .returned (.tuple #[iv (wstF (lossF X.mv (X.acct i).pos) X.k).1, iv (wstF (lossF X.mv (X.acct i).pos) X.k).2]) ∧ Own B w0 w' H := by
 have hG := hX
 have hmo := hG.mo
 have hmo1 := hX.mo1
 have hmem := hG.mem
 have hk64 := hG.k
 have hmn := X.mn_eq hX.mo1
 have hfl : ∀ m : Int, X.mo ≤ m → (X.acct i).pos m = 0 := hX.fl (i - 1) (by omega) (by omega)
 have hps : Bd (X.acct i).pos 2000000 := (hG.pos (i - 1) (by omega) (by omega)).mono (by decide)
 obtain ⟨ab, ao, ea, ra⟩ := hK.av.at (by decide) (hO.sub hs) (by omega)
 obtain ⟨qb, qo, eq, rq⟩ := (hK.qv (i - 1) (by omega) (by omega)).at (hO.sub hs) (by omega)
 refine calls_of_run (F := [(0, _), (1, _)]) Try.func83 rfl Try.ntmps83 rfl rfl <| run_seq <| run_region <| rl_ow rfl (ow_box _ rfl rfl rfl rfl rfl hO) ?_
 rintro _ w1 ⟨b2, rfl, hO2, hs3⟩
 refine rl_v rfl rfl rfl (ov_assign rfl rfl) <| rl_v rfl rfl rfl (ov_assign rfl rfl) <| rl_nil <| run_seq <| run_region <| rl_v rfl rfl rfl (ov_assign rfl rfl) <| rl_v rfl rfl rfl (ov_assign rfl rfl) <| rl_nil <| run_seq <| run_region <| rl_v rfl rfl rfl (ov_fieldS rfl Try.underlying34 rfl (fo := 7) rfl (by kernel_rfl) rfl) ?_
 refine rl_v rfl rfl rfl (ov_load rfl Try.underlying31 rfl rfl (by exact hO2.cellL 0 rfl (off := 7) rfl)) ?_
 refine rl_v rfl rfl rfl (ov_move rfl rfl) <| rl_v rfl rfl rfl (ov_sub rfl rfl rfl (by omega)) ?_
 refine rl_v rfl rfl rfl (ov_index rfl Try.underlying31 (by kernel_rfl) (s := 4) rfl rfl ⟨by omega, by omega⟩ (by exact (id ea))) ?_
 refine rl_v rfl rfl rfl (ov_fieldS rfl Try.underlying49 rfl (fo := 2) rfl (by kernel_rfl) rfl) ?_
 refine rl_v rfl rfl rfl (ov_load rfl Try.underlying22 rfl rfl (by exact (show _ = some (.slice (K.qa (i - 1)) X.mn (K.qc (i - 1))) from ra (hO2.sub (.cons _ hs)) (i - 1) (by omega) (by omega) 2 (by decide)))) ?_
 refine rl_v rfl rfl rfl (ov_assign rfl rfl) <| rl_nil <| run_seq <| run_seq <| run_region <| rl_v rfl rfl rfl (ov_assign rfl rfl) <| rl_nil <| run_block <| Run.keep [2, 6, 7, 8, 9] (F' := [(2, _), (6, _), (7, _), (8, _), (9, _)]) rfl <| run_loop2 (fun (j : Int) (n : Nat) => [(6, .int .i64 (wstF (lossF X.mv (X.acct i).pos) n).1), (7, .int .i64 (wstF (lossF X.mv (X.acct i).pos) n).2), (9, .int .i64 j)]) [2, 8] (fun (j : Int) (n : Nat) (w4 : World) => j = n ∧ n ≤ X.k ∧ Own B w0 w4 (some (lch b2 34 (ghL X K)) :: H)) (fun (j : Int) (n : Nat) => X.k - n) (0) (0) ?_ (And.intro (by rfl) (And.intro (by rfl) (And.intro (by exact slot_int rfl (by first | omega)) (And.intro rfl (And.intro rfl trivial))))) ?_
 ·exact ⟨rfl, by omega, hO2⟩
 intro j n w4 hIw4 ih5
 obtain ⟨hj, hn, hO1⟩ := hIw4
 show Run _ _ _ _ [(6, _), (7, _), (9, _), (2, _), (8, _)] _ _
 refine run_seq <| run_seq <| run_region <| rl_v rfl rfl rfl (ov_move rfl rfl) <| rl_v rfl rfl rfl (ov_fieldS rfl Try.underlying34 rfl (fo := 0) rfl (by kernel_rfl) rfl) ?_
 refine rl_v rfl rfl rfl (ov_fieldS rfl Try.underlying25 rfl (fo := 3) rfl (by kernel_rfl) rfl) ?_
 refine rl_v rfl rfl rfl (ov_load rfl Try.underlying23 rfl rfl (by exact hO1.cellL 0 rfl (off := 3) rfl)) ?_
 refine rl_v rfl rfl rfl (ov_len rfl Try.underlying23 rfl) <| rl_v rfl rfl rfl (ov_lss rfl rfl rfl) <| rl_nil ?_
 first | refine run_cond_dec rfl (fun h1 => ?_) (fun h1 => ?_) | refine run_cond rfl (fun h1 => ?_) (fun h1 => ?_)
 ·obtain ⟨mb, mo', em, rm⟩ := hK.ms.at (hO.sub hs) (by omega)
  obtain ⟨vb, vo, ev, rv⟩ := (hK.vv j (by omega) (by omega)).at (hO.sub hs) (by omega)
  have hmv := hG.mv j (by omega) (by omega)
  refine run_skip <| run_seq <| run_block <| run_seq <| run_region <| rl_v rfl rfl rfl (ov_assign rfl rfl) <| rl_nil <| run_seq <| run_seq <| run_region <| rl_v rfl rfl rfl (ov_assign rfl rfl) <| rl_nil <| run_block <| Run.keep [2, 6, 7, 8, 9, 10, 11] (F' := [(2, _), (6, _), (7, _), (8, _), (9, _), (10, _), (11, _)]) rfl <| run_loop1 (fun (m : Int) => [(10, .int .i64 (sm (fun m => -((X.acct i).pos m * X.mv j m)) m)), (11, .int .i64 m)]) [2, 6, 7, 8, 9] (fun (m : Int) (w6 : World) => (0 ≤ m ∧ m ≤ X.mo) ∧ Own B w0 w6 (some (lch b2 34 (ghL X K)) :: H)) (fun (m : Int) => (X.mo - m).toNat) (0) ?_ (And.intro (by rfl) (And.intro (by exact slot_int rfl (by first | omega)) (And.intro rfl (And.intro rfl (And.intro rfl (And.intro rfl (And.intro rfl trivial))))))) ?_
  ·exact ⟨by omega, hO1⟩
  intro m w6 hIw6 ih7
  obtain ⟨hm, hO2⟩ := hIw6
  show Run _ _ _ _ [(10, _), (11, _), (2, _), (6, _), (7, _), (8, _), (9, _)] _ _
  refine run_seq <| run_seq <| run_region <| rl_v rfl rfl rfl (ov_move rfl rfl) <| rl_v rfl rfl rfl (ov_move rfl rfl) <| rl_v rfl rfl rfl (ov_len rfl Try.underlying22 rfl) <| rl_v rfl rfl rfl (ov_lss rfl rfl rfl) <| rl_nil ?_
  first | refine run_cond_dec rfl (fun h2 => ?_) (fun h2 => ?_) | refine run_cond rfl (fun h2 => ?_) (fun h2 => ?_)
  ·have hl := loss_rng hps hmv hm.1 (show m ≤ 12 by omega)
   have hmul := mulAbs (hps m hm.1 (by omega)) (hmv m hm.1 (by omega))
   have hsu := sm_succ (fun m => -((X.acct i).pos m * X.mv j m)) (k := m) hm.1
   refine run_skip <| run_seq <| run_block <| run_quiet mixed (by kernel_rfl) ?_
   refine rq_v rfl rfl rfl (fun _ => ov_move rfl rfl) ?_
   refine rq_v rfl rfl rfl (fun _ => ov_move rfl rfl) ?_
   refine rq_v rfl rfl rfl (fun _ => ov_move rfl rfl) ?_
   refine rq_v rfl rfl rfl (fun _ => ov_index1 rfl Try.underlying22 (by kernel_rfl) rfl rfl ⟨by omega, by omega⟩ (by exact (id eq))) ?_
   refine rq_v rfl rfl rfl (fun _ => ov_load rfl Try.underlying2 rfl rfl (by show World.cell? w6 _ = _; first | exact (show _ = some (iv ((X.acct i).pos m)) from rq (hO2.sub (.cons _ hs)) m hm.1 (by omega)))) ?_
   refine rq_v rfl rfl rfl (fun _ => ov_fieldS rfl Try.underlying34 rfl (fo := 0) rfl (by kernel_rfl) rfl) ?_
   refine rq_v rfl rfl rfl (fun _ => ov_fieldS rfl Try.underlying25 rfl (fo := 3) rfl (by kernel_rfl) rfl) ?_
   refine rq_v rfl rfl rfl (fun _ => ov_load rfl Try.underlying23 rfl rfl (by show World.cell? w6 _ = _; first | exact hO2.cellL 0 rfl (off := 3) rfl)) ?_
   refine rq_v rfl rfl rfl (fun _ => ov_move rfl rfl) ?_
   refine rq_v rfl rfl rfl (fun _ => ov_index1 rfl Try.underlying23 (by kernel_rfl) rfl rfl ⟨by omega, by omega⟩ (by exact (id em))) ?_
   refine rq_v rfl rfl rfl (fun _ => ov_load rfl Try.underlying22 rfl rfl (by show World.cell? w6 _ = _; first | exact rm (hO2.sub (.cons _ hs)) j (by omega) (by omega))) ?_
   refine rq_v rfl rfl rfl (fun _ => ov_move rfl rfl) ?_
   refine rq_v rfl rfl rfl (fun _ => ov_index1 rfl Try.underlying22 (by kernel_rfl) rfl rfl ⟨by omega, by omega⟩ (by exact (id ev))) ?_
   refine rq_v rfl rfl rfl (fun _ => ov_load rfl Try.underlying2 rfl rfl (by show World.cell? w6 _ = _; first | exact rv (hO2.sub (.cons _ hs)) m hm.1 (by omega))) ?_
   refine rq_v rfl rfl rfl (fun _ => ov_mul rfl rfl rfl (by omega)) ?_
   refine rq_v rfl rfl rfl (fun _ => ov_sub rfl rfl rfl (by omega)) ?_
   refine rq_v rfl rfl rfl (fun _ => ov_assign rfl rfl) ?_
   refine rq_nil (fun n8 => ?_)
   have hO10 := hO2.drewN n8
   generalize World.drewN w6 n8 = w9 at hO10 ⊢
   refine run_inBlock <| run_region <| rl_v rfl rfl rfl (ov_move rfl rfl) <| rl_v rfl rfl rfl (ov_add rfl rfl rfl (by omega)) ?_
   refine rl_v rfl rfl rfl (ov_assign rfl rfl) <| rl_nil ?_
   refine Run.use (ih7 (m + 1) _ ?_ ?_) (And.intro (by exact slot_int rfl (by first | omega)) (And.intro (by exact slot_int rfl (by first | omega)) (And.intro rfl (And.intro rfl (And.intro rfl (And.intro rfl (And.intro rfl trivial)))))))
   ·first | omega | (dsimp only; omega)
   ·exact ⟨by omega, hO10⟩
  ·obtain rfl : m = X.mo := by omega
   have hL : sm (fun m => -((X.acct i).pos m * X.mv j m)) X.mo = lossF X.mv (X.acct i).pos j := (sm_flat12 (by omega) (by omega) fun m hm => by rw [hfl m hm, Int.zero_mul]; rfl).symm
   refine run_exit rfl <| run_seq <| run_region <| rl_v rfl rfl rfl (ov_move rfl rfl) <| rl_v rfl rfl rfl (ov_move rfl rfl) <| rl_v rfl rfl rfl (ov_gtr rfl rfl rfl) <| rl_nil ?_
   first | refine run_cond_dec rfl (fun c1 => ?_) (fun c1 => ?_) | refine run_cond rfl (fun c1 => ?_) (fun c1 => ?_)
   ·have c1' : (wstF (lossF X.mv (X.acct i).pos) n).2 < lossF X.mv (X.acct i).pos n := by rw [← hj, ← hL]; exact c1
    have ew : wstF (lossF X.mv (X.acct i).pos) (n + 1) = ((n : Int), lossF X.mv (X.acct i).pos n) := if_pos c1'
    refine run_region <| rl_v rfl rfl rfl (ov_move rfl rfl) <| rl_v rfl rfl rfl (ov_move rfl rfl) <| rl_v rfl rfl rfl (ov_assign rfl rfl) <| rl_v rfl rfl rfl (ov_assign rfl rfl) <| rl_nil <| run_inBlock <| run_region <| rl_v rfl rfl rfl (ov_move rfl rfl) <| rl_v rfl rfl rfl (ov_add rfl rfl rfl (by omega)) ?_
    refine rl_v rfl rfl rfl (ov_assign rfl rfl) <| rl_nil ?_
    refine Run.use (ih5 (j + 1) (n + 1) _ ?_ ?_) (And.intro (by exact slot_int rfl (by first | omega | (rw [ew]; omega))) (And.intro (by exact slot_int rfl (by first | omega | (rw [ew, hL, hj]))) (And.intro (by exact slot_int rfl (by first | omega)) (And.intro rfl (And.intro rfl trivial)))))
    ·first | omega | (dsimp only; omega)
    ·exact ⟨by omega, by omega, hO2⟩
   ·have c1' : ¬ (wstF (lossF X.mv (X.acct i).pos) n).2 < lossF X.mv (X.acct i).pos n := by rw [← hj, ← hL]; exact c1
    have ew : wstF (lossF X.mv (X.acct i).pos) (n + 1) = wstF (lossF X.mv (X.acct i).pos) n := if_neg c1'
    refine run_skip <| run_inBlock <| run_region <| rl_v rfl rfl rfl (ov_move rfl rfl) <| rl_v rfl rfl rfl (ov_add rfl rfl rfl (by omega)) ?_
    refine rl_v rfl rfl rfl (ov_assign rfl rfl) <| rl_nil ?_
    refine Run.use (ih5 (j + 1) (n + 1) _ ?_ ?_) (And.intro (by exact slot_int rfl (by first | omega | (rw [ew]))) (And.intro (by exact slot_int rfl (by first | omega | (rw [ew]))) (And.intro (by exact slot_int rfl (by first | omega)) (And.intro rfl (And.intro rfl trivial)))))
    ·first | omega | (dsimp only; omega)
    ·exact ⟨by omega, by omega, hO2⟩
 ·obtain rfl : X.k = n := by omega
  refine run_exit rfl <| run_seq <| run_region <| rl_v rfl rfl rfl (ov_move rfl rfl) <| rl_v rfl rfl rfl (ov_move rfl rfl) <| rl_v rfl rfl rfl (ov_assign rfl rfl) <| rl_v rfl rfl rfl (ov_assign rfl rfl) <| rl_nil <| run_ret Try.func83 (res2 Try.results83 rfl rfl) ?_
  exact ⟨rfl, hO1.tail⟩
theorem gMargin_any (X : HM) (K : GK) (i : Int) (R : List (Option Blk)) (B : Nat) (H : List (Option Blk)) (w0 w : World) (hO : Own B w0 w H) (hK : GIn R X K) (hs : R.Sublist H) (hX : GW X) (hi : 1 ≤ i ∧ i ≤ X.mem) :
  Calls Try.prog 85 #[.agg (ghL X K).toArray, iv i] w fun e w' => e = .returned (iv (X.need (X.acct i))) ∧ Own B w0 w' H := by
 have hG := hX
 have hmo := hG.mo
 have hmo1 := hX.mo1
 have hmem := hG.mem
 have hmn := X.mn_eq hX.mo1
 have hrt := hG.rate
 have hfl : ∀ m : Int, X.mo ≤ m → (X.acct i).pos m = 0 := hX.fl (i - 1) (by omega) (by omega)
 have hps : Bd (X.acct i).pos 2000000 := (hG.pos (i - 1) (by omega) (by omega)).mono (by decide)
 obtain ⟨ab, ao, ea, ra⟩ := hK.av.at (by decide) (hO.sub hs) (by omega)
 obtain ⟨qb, qo, eq, rq⟩ := (hK.qv (i - 1) (by omega) (by omega)).at (hO.sub hs) (by omega)
 obtain ⟨pb, po, ep, rp⟩ := hK.pv.at (hO.sub hs) (by omega)
 refine calls_of_run (F := [(0, _), (1, _)]) Try.func85 rfl Try.ntmps85 rfl rfl <| run_seq <| run_region <| rl_ow rfl (ow_box _ rfl rfl rfl rfl rfl hO) ?_
 rintro _ w1 ⟨b2, rfl, hO2, hs3⟩
 refine rl_v rfl rfl rfl (ov_assign rfl rfl) <| rl_nil <| run_seq <| run_region <| rl_v rfl rfl rfl (ov_loadW rfl Try.underlying34 rfl (by kernel_rfl) rfl hO2 0 rfl) ?_
 refine rl_v rfl rfl rfl (ov_move rfl rfl) ?_
 refine rl_call callable_83 rfl rfl rfl rfl rfl rfl (gWorst_any X K i R B _ w0 w1 hO2 hK (.cons _ hs) hX hi) (fun e4 w5 hp6 => ?_)
 obtain ⟨rfl, hO1⟩ := hp6
 refine ⟨_, rfl, ?_⟩
 refine rl_v rfl rfl rfl (ov_move rfl rfl) <| rl_v rfl rfl rfl (ov_extract rfl rfl (by rfl)) ?_
 refine rl_v rfl rfl rfl (ov_extract rfl rfl (by rfl)) ?_
 refine rl_v rfl rfl rfl (ov_assign rfl rfl) <| rl_v rfl rfl rfl (ov_assign rfl rfl) <| rl_nil <| run_seq <| run_region <| rl_v rfl rfl rfl (ov_assign rfl rfl) <| rl_nil <| run_seq <| run_region <| rl_v rfl rfl rfl (ov_fieldS rfl Try.underlying34 rfl (fo := 7) rfl (by kernel_rfl) rfl) ?_
 refine rl_v rfl rfl rfl (ov_load rfl Try.underlying31 rfl rfl (by exact hO1.cellL 0 rfl (off := 7) rfl)) ?_
 refine rl_v rfl rfl rfl (ov_move rfl rfl) <| rl_v rfl rfl rfl (ov_sub rfl rfl rfl (by omega)) ?_
 refine rl_v rfl rfl rfl (ov_index rfl Try.underlying31 (by kernel_rfl) (s := 4) rfl rfl ⟨by omega, by omega⟩ (by exact (id ea))) ?_
 refine rl_v rfl rfl rfl (ov_fieldS rfl Try.underlying49 rfl (fo := 2) rfl (by kernel_rfl) rfl) ?_
 refine rl_v rfl rfl rfl (ov_load rfl Try.underlying22 rfl rfl (by exact (show _ = some (.slice (K.qa (i - 1)) X.mn (K.qc (i - 1))) from ra (hO1.sub (.cons _ hs)) (i - 1) (by omega) (by omega) 2 (by decide)))) ?_
 refine rl_v rfl rfl rfl (ov_assign rfl rfl) <| rl_nil <| run_seq <| run_seq <| run_region <| rl_v rfl rfl rfl (ov_assign rfl rfl) <| rl_nil <| run_block <| Run.keep [2, 6, 7, 8, 9] (F' := [(2, _), (6, _), (7, _), (8, _), (9, _)]) rfl <| run_loop1 (fun (m : Int) => [(7, .int .i64 (sm (fun m => max ((X.acct i).pos m) (-((X.acct i).pos m)) * X.pr m) m)), (9, .int .i64 m)]) [2, 6, 8] (fun (m : Int) (w7 : World) => (0 ≤ m ∧ m ≤ X.mo) ∧ Own B w0 w7 (some (lch b2 34 (ghL X K)) :: H)) (fun (m : Int) => (X.mo - m).toNat) (0) ?_ (And.intro (by rfl) (And.intro (by exact slot_int rfl (by first | omega)) (And.intro rfl (And.intro rfl (And.intro rfl trivial))))) ?_
 ·exact ⟨by omega, hO1⟩
 intro m w7 hIw7 ih8
 obtain ⟨hm, hO2⟩ := hIw7
 show Run _ _ _ _ [(7, _), (9, _), (2, _), (6, _), (8, _)] _ _
 refine run_seq <| run_seq <| run_region <| rl_v rfl rfl rfl (ov_move rfl rfl) <| rl_v rfl rfl rfl (ov_move rfl rfl) <| rl_v rfl rfl rfl (ov_len rfl Try.underlying22 rfl) <| rl_v rfl rfl rfl (ov_lss rfl rfl rfl) <| rl_nil ?_
 first | refine run_cond_dec rfl (fun h2 => ?_) (fun h2 => ?_) | refine run_cond rfl (fun h2 => ?_) (fun h2 => ?_)
 ·have hpm := hps m hm.1 (by omega)
  have hrm := hG.pbd.rng m hm.1 (by omega)
  have hmul := mulAbs (a := max ((X.acct i).pos m) (-((X.acct i).pos m))) (b := X.pr m) (A := 2000000) (B := 3000000) (by omega) (by omega)
  have hsp := span_rng hps hG.pbd.rng hm.1 (show m ≤ 12 by omega)
  have hsu := sm_succ (fun m => max ((X.acct i).pos m) (-((X.acct i).pos m)) * X.pr m) (k := m) hm.1
  refine run_skip <| run_seq <| run_block <| run_quiet mixed (by kernel_rfl) ?_
  refine rq_v rfl rfl rfl (fun _ => ov_move rfl rfl) ?_
  refine rq_v rfl rfl rfl (fun _ => ov_move rfl rfl) ?_
  refine rq_v rfl rfl rfl (fun _ => ov_move rfl rfl) ?_
  refine rq_v rfl rfl rfl (fun _ => ov_index1 rfl Try.underlying22 (by kernel_rfl) rfl rfl ⟨by omega, by omega⟩ (by exact (id eq))) ?_
  refine rq_v rfl rfl rfl (fun _ => ov_load rfl Try.underlying2 rfl rfl (by show World.cell? w7 _ = _; first | exact (show _ = some (iv ((X.acct i).pos m)) from rq (hO2.sub (.cons _ hs)) m hm.1 (by omega)))) ?_
  refine rq_v rfl rfl rfl (fun _ => ov_move rfl rfl) ?_
  refine rq_v rfl rfl rfl (fun _ => ov_move rfl rfl) ?_
  refine rq_v rfl rfl rfl (fun _ => ov_index1 rfl Try.underlying22 (by kernel_rfl) rfl rfl ⟨by omega, by omega⟩ (by exact (id eq))) ?_
  refine rq_v rfl rfl rfl (fun _ => ov_load rfl Try.underlying2 rfl rfl (by show World.cell? w7 _ = _; first | exact (show _ = some (iv ((X.acct i).pos m)) from rq (hO2.sub (.cons _ hs)) m hm.1 (by omega)))) ?_
  refine rq_v rfl rfl rfl (fun _ => ov_neg rfl rfl (by omega)) ?_
  refine rq_v rfl rfl rfl (fun _ => ov_max rfl rfl rfl) ?_
  refine rq_v rfl rfl rfl (fun _ => ov_fieldS rfl Try.underlying34 rfl (fo := 6) rfl (by kernel_rfl) rfl) ?_
  refine rq_v rfl rfl rfl (fun _ => ov_load rfl Try.underlying22 rfl rfl (by show World.cell? w7 _ = _; first | exact hO2.cellL 0 rfl (off := 6) rfl)) ?_
  refine rq_v rfl rfl rfl (fun _ => ov_move rfl rfl) ?_
  refine rq_v rfl rfl rfl (fun _ => ov_index1 rfl Try.underlying22 (by kernel_rfl) rfl rfl ⟨by omega, by omega⟩ (by exact (id ep))) ?_
  refine rq_v rfl rfl rfl (fun _ => ov_load rfl Try.underlying2 rfl rfl (by show World.cell? w7 _ = _; first | exact rp (hO2.sub (.cons _ hs)) m hm.1 (by omega))) ?_
  refine rq_v rfl rfl rfl (fun _ => ov_mul rfl rfl rfl (by omega)) ?_
  refine rq_v rfl rfl rfl (fun _ => ov_add rfl rfl rfl (by omega)) ?_
  refine rq_v rfl rfl rfl (fun _ => ov_assign rfl rfl) ?_
  refine rq_nil (fun n9 => ?_)
  have hO11 := hO2.drewN n9
  generalize World.drewN w7 n9 = w10 at hO11 ⊢
  refine run_inBlock <| run_region <| rl_v rfl rfl rfl (ov_move rfl rfl) <| rl_v rfl rfl rfl (ov_add rfl rfl rfl (by omega)) ?_
  refine rl_v rfl rfl rfl (ov_assign rfl rfl) <| rl_nil ?_
  refine Run.use (ih8 (m + 1) _ ?_ ?_) (And.intro (by exact slot_int rfl (by first | omega)) (And.intro (by exact slot_int rfl (by first | omega)) (And.intro rfl (And.intro rfl (And.intro rfl trivial)))))
  ·first | omega | (dsimp only; omega)
  ·exact ⟨by omega, hO11⟩
 ·obtain rfl : m = X.mo := by omega
  have hS : sm (fun m => max ((X.acct i).pos m) (-((X.acct i).pos m)) * X.pr m) X.mo = spanF (X.acct i).pos X.pr := (sm_flat12 (by omega) (by omega) fun m hm => by rw [hfl m hm]; show max 0 (-0) * X.pr m = 0; rw [show max (0 : Int) (-0) = 0 by decide, Int.zero_mul]).symm
  have hsp := span_rng hps hG.pbd.rng (k := 12) (by decide) (by decide)
  have hsp' : 0 ≤ spanF (X.acct i).pos X.pr ∧ spanF (X.acct i).pos X.pr ≤ 72000000000000 := hsp
  have hmul : 0 ≤ spanF (X.acct i).pos X.pr * X.rate ∧ spanF (X.acct i).pos X.pr * X.rate ≤ 72000000000000 * 1000 := mulb hsp'.1 hsp'.2 hrt.1 hrt.2
  have hmx := mxF_nonneg (lossF X.mv (X.acct i).pos) X.k
  have hmx2 := mxF_le (f := lossF X.mv (X.acct i).pos) (M := 24000000000000) (by decide) X.k fun j j0 j1 => (lossF_rng hps (hG.mv j j0 j1)).2
  have hw2 := wst_mx (lossF X.mv (X.acct i).pos) X.k
  refine run_exit rfl <| run_seq <| run_region <| rl_v rfl rfl rfl (ov_move rfl rfl) <| rl_v rfl rfl rfl (ov_move rfl rfl) <| rl_v rfl rfl rfl (ov_fieldS rfl Try.underlying34 rfl (fo := 0) rfl (by kernel_rfl) rfl) ?_
  refine rl_v rfl rfl rfl (ov_fieldS rfl Try.underlying25 rfl (fo := 4) rfl (by kernel_rfl) rfl) ?_
  refine rl_v rfl rfl rfl (ov_load rfl Try.underlying2 rfl rfl (by exact (show _ = some (iv X.rate) from hO2.cellL 0 rfl (off := 4) rfl))) ?_
  refine rl_v rfl rfl rfl (ov_mul rfl rfl rfl (by rw [hS]; omega)) ?_
  refine rl_v rfl rfl rfl (ov_add rfl rfl rfl (by rw [hS]; omega)) ?_
  refine rl_v rfl rfl rfl (ov_quo rfl rfl rfl (by rw [hS]; omega) (by decide)) ?_
  refine rl_v rfl rfl rfl (ov_add rfl rfl rfl (by rw [hS]; omega)) ?_
  refine rl_v rfl rfl rfl (ov_assign rfl rfl) <| rl_nil <| run_ret Try.func85 (res1 Try.results85 rfl) ?_
  exact ⟨by rw [hS, hw2]; rfl, hO2.tail⟩
theorem gCovered_any (X : HM) (K : GK) (i : Int) (R : List (Option Blk)) (B : Nat) (H : List (Option Blk)) (w0 w : World) (hO : Own B w0 w H) (hK : GIn R X K) (hs : R.Sublist H) (hX : GG X) (hi : 1 ≤ i ∧ i ≤ X.mem) :
  Calls Try.prog 119 #[.agg (ghL X K).toArray, iv i] w fun e w' => e = .returned (.bool (decide (X.need (X.acct i) ≤ (X.acct i).cash))) ∧ Own B w0 w' H := by
 have hmem := hX.g.mem
 obtain ⟨ab, ao, ea, ra⟩ := hK.av.at (by decide) (hO.sub hs) (by omega)
 refine calls_of_run (F := [(0, _), (1, _)]) Try.func119 rfl Try.ntmps119 rfl rfl <| run_seq <| run_region <| rl_ow rfl (ow_box _ rfl rfl rfl rfl rfl hO) ?_
 rintro _ w1 ⟨b2, rfl, hO2, hs3⟩
 refine rl_v rfl rfl rfl (ov_assign rfl rfl) <| rl_nil <| run_seq <| run_class (Cl B w0 (some (lch b2 34 (ghL X K)) :: H)) (⟨hO2.drew⟩) mixed (by kernel_rfl) ?_
 refine rk_v rfl rfl rfl (fun wq hQ => ov_fieldS rfl Try.underlying34 rfl (fo := 7) rfl (by kernel_rfl) rfl) ?_
 refine rk_v rfl rfl rfl (fun wq hQ => ov_load rfl Try.underlying31 rfl rfl (by exact (hQ.own).cellL 0 rfl (off := 7) rfl)) ?_
 refine rk_v rfl rfl rfl (fun wq hQ => ov_move rfl rfl) ?_
 refine rk_v rfl rfl rfl (fun wq hQ => ov_sub rfl rfl rfl (by omega)) ?_
 refine rk_v rfl rfl rfl (fun wq hQ => ov_index rfl Try.underlying31 (by kernel_rfl) (s := 4) rfl rfl ⟨by omega, by omega⟩ (by exact (id ea))) ?_
 refine rk_v rfl rfl rfl (fun wq hQ => ov_fieldS rfl Try.underlying49 rfl (fo := 0) rfl (by kernel_rfl) rfl) ?_
 refine rk_v rfl rfl rfl (fun wq hQ => ov_load rfl Try.underlying2 rfl rfl (by exact (show _ = some (iv (X.acct i).cash) from ra ((hQ.own).sub (.cons _ hs)) (i - 1) (by omega) (by omega) 0 (by decide)))) ?_
 refine rk_v rfl rfl rfl (fun wq hQ => ov_loadW rfl Try.underlying34 rfl (by kernel_rfl) rfl (hQ.own) 0 rfl) ?_
 refine rk_v rfl rfl rfl (fun wq hQ => ov_move rfl rfl) ?_
 refine rk_call callable_85 rfl rfl rfl rfl rfl rfl (fun wq hQ => (gMargin_any X K i R B _ w0 wq (hQ.own) hK (.cons _ hs) hX.w hi).mono fun _ _ h => ⟨h.1, ⟨h.2⟩⟩) ?_
 refine rk_v rfl rfl rfl (fun wq hQ => ov_geq rfl rfl rfl) ?_
 refine rk_v rfl rfl rfl (fun wq hQ => ov_assign rfl rfl) ?_
 refine rk_nil (fun w7 hQ => ?_)
 refine run_ret Try.func119 (res1 Try.results119 rfl) ?_
 exact ⟨rfl, (hQ.own).tail⟩
end Go.Proofs.Ytfbbagnpdfafjaa
