import Derived.Test.YtlldeifbfpmbaaaFnD
import Derived.Test.YtlldeifbfpmbaaaFcF
set_option maxRecDepth 100000
namespace Go.Proofs.Ytlldeifbfpmbaaa
open Go.RowKit Go.Proofs Go.MapKept
section
variable {P : Program} {N : Nat} {o : Oper} {F : Fr} {w : World}
theorem ov_lookO {T kt et : TypeId} {x ix : Operand} {b : Nat} {i r : Int} {L : List (Int × Value)} (ho : o.op = .lookup T x ix true) (hT : P.underlying T = some (.map kt et)) (hk : P.underlying kt = some (.int .i64)) (hz : (P.info? et).map (·.zero) = some (some (iv 0)))
  (hx : Fr.ev F x = some (.map (some b))) (hi : Fr.ev F ix = some (.int .i64 i)) (hm : w.heap[b]? = some (.map (ents L 0).toArray L.length)) (hl : lkp L i = if 0 ≤ r then some (iv r) else none) : OpV P N o F w (.tuple #[iv (if 0 ≤ r then r else 0), .bool (decide (0 ≤ r))]) := by
 obtain ⟨n, hn⟩ : ∃ n : Nat, (n : Int) = (if 0 ≤ r then r else 0) + 1 := ⟨((if 0 ≤ r then r else 0) + 1).toNat, by split <;> omega⟩
 have h := ov_lookR2 (N := N) (r := if 0 ≤ r then r else n) (n := n) ho hT hk hz hx hi hm (by
  rw [hl]
  by_cases c : 0 ≤ r
  ·rw [if_pos c] at hn
   rw [if_pos c, if_pos c, if_pos (by omega)]
  ·rw [if_neg c, if_neg c, if_neg (by omega)])
 by_cases c : 0 ≤ r
 ·rw [if_pos c] at hn
  rw [if_pos c] at h
  rw [if_pos (show r < n by omega)] at h
  rw [if_pos c]
  have e : decide (0 ≤ r) = decide (r < (n : Int)) := by rw [decide_eq_true c, decide_eq_true (by omega)]
  rw [e]
  exact h
 ·rw [if_neg c] at h
  rw [if_neg (show ¬ (n : Int) < n by omega)] at h
  rw [if_neg c]
  have e : decide (0 ≤ r) = decide ((n : Int) < n) := by rw [decide_eq_false c, decide_eq_false (by omega)]
  rw [e]
  exact h
end
def MOf (Lm : List (Int × Value)) (n : Nat) (of : Int → Int) : Prop := ∀ k : Int, 0 ≤ k → k < n → lkp Lm k = if 0 ≤ of k then some (iv (of k)) else none
def MSn (Ls : List (Int × Value)) (n : Nat) (s : Int → Bool) : Prop := ∀ k : Int, 0 ≤ k → k < n → lkp Ls k = if s k = true then some (.bool true) else none
theorem MOf.put {Lm : List (Int × Value)} {n : Nat} {of : Int → Int} (h : MOf Lm n of) {k i : Int} (i0 : 0 ≤ i) : MOf (mput Lm k (iv i)) n (upd of k i) := fun j j0 j1 => by
 rw [lkp_mput]
 by_cases c : j = k
 ·rw [if_pos c, c, upd_same, if_pos i0]
 ·rw [if_neg c, upd_ne _ _ c]; exact h j j0 j1
theorem MSn.put {Ls : List (Int × Value)} {n : Nat} {s : Int → Bool} (h : MSn Ls n s) {k : Int} : MSn (mput Ls k (.bool true)) n (upd s k true) := fun j j0 j1 => by
 rw [lkp_mput]
 by_cases c : j = k
 ·rw [if_pos c, c, upd_same, if_pos rfl]
 ·rw [if_neg c, upd_ne _ _ c]; exact h j j0 j1
theorem MSn.getD {Ls : List (Int × Value)} {n : Nat} {s : Int → Bool} (h : MSn Ls n s) {k : Int} (k0 : 0 ≤ k) (k1 : k < n) : (lkp Ls k).getD (.bool false) = .bool (s k) := by
 rw [h k k0 k1]
 cases s k <;> rfl
def InL (X : Int → Int) (n : Nat) (k : Int) : Prop := ∃ j : Int, (0 ≤ j ∧ j < n) ∧ X j = k
theorem inL_rk {X : Int → Int} {n : Nat} {k : Int} : rk X n k < n ↔ InL X n k := by
 constructor
 ·intro h; exact ⟨rk X n k, ⟨(rk_rng X k n).1, h⟩, rk_at h⟩
 ·rintro ⟨j, ⟨j0, j1⟩, e⟩
  exact Classical.byContradiction fun h => rk_ne (n := n) j0 (by have := (rk_rng X k n).2; omega) e
abbrev dealR (ma fa ra : Option Addr) (mn mc n fc rc mb bm bmm bc bw bgv bge : Nat) (who : Int) : List (Option Blk) :=
 [some (lch bc 89 [.slice fa n fc, .slice ra n rc]), some (lch bm 23 [.slice ma mn mc]), some (lch bw 3 [iv who]), some (lch bmm 100 [.map (some mb)]),
  some (lch bgv 125 [.func (.func 83) #[] #[ptr bm, ptr bmm]]), some (lch bge 123 [.func (.func 84) #[] #[ptr bc, ptr bw, ptr bgv, ptr bge]])]
theorem ovV {P : Program} {N : Nat} {o : Oper} {F : Fr} {w : World} {a b : Value} (h : OpV P N o F w a) (e : a = b) : OpV P N o F w b := e ▸ h
def opD (M : Int → Int) (mn : Nat) (who : Int) (FL ML : Int → Nat) (FE ME : Int → Int → Int) (x k : Int) : Prop := InI M mn k ∧ if x = who then InL (ME x) (ML x) k else InL (FE x) (FL x) k
structure DealM (B : Nat) (w0 : World) (ma fa ra : Option Addr) (mn n : Nat) (M : Int → Int) (FL ML : Int → Nat) (FE ME : Int → Int → Int) : Prop where
 m : IAt B w0 ma mn (fun i => iv (M i))
 f : RTab B w0 fa n FL FE
 r : RTab B w0 ra n ML ME
 n64 : n ≤ 64
 fl : ∀ i : Int, 0 ≤ i → i < n → FL i ≤ 1000
 ml : ∀ i : Int, 0 ≤ i → i < n → ML i ≤ 1000
 mb : Memb n mn M
def GiveQ (B : Nat) (w0 : World) (R : List (Option Blk)) (n mb sm : Nat) (op : Int → Int → Prop) (i : Int) (of : Int → Int) (s : Int → Bool) (e : Ending) (w' : World) : Prop :=
 ∃ (b : Bool) (of' : Int → Int) (s' : Int → Bool) (Lm' Ls' : List (Int × Value)), e = .returned (.bool b) ∧ MOf Lm' n of' ∧ Own B w0 w' (some (mch mb Lm') :: some (mch sm Ls') :: R) ∧ MSn Ls' n s' ∧ (b = true → KS n op i of s of' ∧ ∀ k : Int, 0 ≤ k → k < n → of' k < n) ∧ (b = false → of' = of ∧ KF n op i of s s')
structure GiveS (B : Nat) (w0 w : World) (R : List (Option Blk)) (n mb sm : Nat) (op : Int → Int → Prop) (i : Int) (of : Int → Int) (s : Int → Bool) (Lm Ls : List (Int × Value)) : Prop where
 i0 : 0 ≤ i
 i1 : i < n
 ofr : ∀ k : Int, 0 ≤ k → k < n → -1 ≤ of k ∧ of k < n
 ok : ∀ k : Int, 0 ≤ k → k < n → 0 ≤ of k → op (of k) k
 mo : MOf Lm n of
 ms : MSn Ls n s
 o : Own B w0 w (some (mch mb Lm) :: some (mch sm Ls) :: R)
section
variable {B : Nat} {w0 : World} {ma fa ra : Option Addr} {mn n : Nat} {M : Int → Int} {FL ML : Int → Nat} {FE ME : Int → Int → Int} (hD : DealM B w0 ma fa ra mn n M FL ML FE ME) (mc fc rc mb bm bmm bc bw bgv bge : Nat) (who : Int)
include hD
set_option maxHeartbeats 4000000 in
theorem given_any (u : Nat) (ih : ∀ m : Nat, m < u → ∀ (i : Int) (of : Int → Int) (s : Int → Bool) (Lm Ls : List (Int × Value)) (sm : Nat) (w : World), uns s n = m → GiveS B w0 w (dealR ma fa ra mn mc n fc rc mb bm bmm bc bw bgv bge who) n mb sm (opD M mn who FL ML FE ME) i of s Lm Ls →
   Calls Try.prog 84 #[iv i, .map (some sm), ptr bc, ptr bw, ptr bgv, ptr bge] w (GiveQ B w0 (dealR ma fa ra mn mc n fc rc mb bm bmm bc bw bgv bge who) n mb sm (opD M mn who FL ML FE ME) i of s))
  (la : Option Addr) (ln lc : Nat) (X : Int → Int) (hln : ln ≤ 1000) (hX : IAt B w0 la ln (fun j => iv (X j))) (i : Int) (of : Int → Int) (s : Int → Bool) (Lm Ls : List (Int × Value)) (sm : Nat) (w : World) (hop : ∀ k, opD M mn who FL ML FE ME i k ↔ InI M mn k ∧ InL X ln k) (hu : uns s n = u) (hS : GiveS B w0 w (dealR ma fa ra mn mc n fc rc mb bm bmm bc bw bgv bge who) n mb sm (opD M mn who FL ML FE ME) i of s Lm Ls) :
  Calls Try.prog 83 #[iv i, .slice la ln lc, .map (some sm), .func (.func 84) #[] #[ptr bc, ptr bw, ptr bgv, ptr bge], ptr bm, ptr bmm] w (GiveQ B w0 (dealR ma fa ra mn mc n fc rc mb bm bmm bc bw bgv bge who) n mb sm (opD M mn who FL ML FE ME) i of s) := by
 obtain ⟨i0, i1, hofr, hok, hMO, hMS, hO⟩ := hS
 obtain ⟨lb, lo, hla, hlrow⟩ := hX.open
 have hmn := hD.mb.short
 have hn := hD.n64
 refine calls_of_run (F := [(0, _), (1, _), (2, _), (3, _), (4, _), (5, _)]) Try.func83 rfl Try.ntmps83 rfl rfl <| run_seq <| run_region <| rl_v rfl rfl rfl (ov_assign rfl rfl) <| rl_nil <| run_seq <| run_seq <| run_region <| rl_v rfl rfl rfl (ov_move rfl rfl) <| rl_v rfl rfl rfl (ov_len rfl Try.underlying23 rfl) <| rl_v rfl rfl rfl (ov_move rfl rfl) <| rl_nil <| run_block <| Run.keep [0, 2, 3, 4, 5, 15, 16, 17] (F' := [(0, _), (2, _), (3, _), (4, _), (5, _), (15, _), (16, _), (17, _)]) rfl <| run_loop4 (fun (p : Int) (s1 : Int → Bool) (Lm : List (Int × Value)) (Ls1 : List (Int × Value)) => [(17, .int .i64 p)]) [0, 2, 3, 4, 5, 15, 16] (fun (p : Int) (s1 : Int → Bool) (Lm : List (Int × Value)) (Ls1 : List (Int × Value)) (w1 : World) => 0 ≤ p ∧ p ≤ ln ∧ KL n (opD M mn who FL ML FE ME) of s s1 ∧ (∀ j : Int, 0 ≤ j → j < p → InI M mn (X j) → s1 (X j) = true) ∧ MSn Ls1 n s1 ∧ MOf Lm n of ∧ Own B w0 w1 (some (mch mb Lm) :: some (mch sm Ls1) :: dealR ma fa ra mn mc n fc rc mb bm bmm bc bw bgv bge who)) (fun (p : Int) (s1 : Int → Bool) (Lm : List (Int × Value)) (Ls1 : List (Int × Value)) => ((ln : Int) - p).toNat) (0) (s) (Lm) (Ls) ?_ (And.intro (by exact slot_int rfl (by first | omega)) (And.intro rfl (And.intro rfl (And.intro rfl (And.intro rfl (And.intro rfl (And.intro rfl (And.intro rfl trivial)))))))) ?_
 ·exact ⟨by omega, by omega, KL.refl _ _ _ _, fun j j0 j1 => by omega, hMS, hMO, hO⟩
 intro p s1 Lm Ls1 w1 hIw1 ih2
 obtain ⟨hp0, hp1, hL, hall, hMS1, hMO, hO⟩ := hIw1
 show Run _ _ _ _ [(17, _), (0, _), (2, _), (3, _), (4, _), (5, _), (15, _), (16, _)] _ _
 refine run_seq <| run_region <| rl_v rfl rfl rfl (ov_lss rfl rfl rfl) <| rl_nil <| run_seq ?_
 first | refine run_cond_dec rfl (fun h1 => ?_) (fun h1 => ?_) | refine run_cond rfl (fun h1 => ?_) (fun h1 => ?_)
 ·refine run_skip <| run_seq <| run_block <| run_seq <| run_region <| rl_v rfl rfl rfl (ov_index1 rfl Try.underlying23 (by kernel_rfl) rfl rfl ⟨by omega, by omega⟩ (by exact hla (by omega))) ?_
  refine rl_v rfl rfl rfl (ov_load rfl Try.underlying3 rfl rfl (by exact hlrow _ hO.below _ (by omega) (by omega))) ?_
  refine rl_v rfl rfl rfl (ov_assign rfl rfl) <| rl_nil <| run_seq <| run_seq <| run_region <| rl_v rfl rfl rfl (ov_load rfl Try.underlying23 rfl rfl (by exact hO.cellL 3 rfl (off := 0) rfl)) ?_
  refine rl_v rfl rfl rfl (ov_move rfl rfl) ?_
  refine rl_call callable_79 rfl rfl rfl rfl rfl rfl (contains5_any ma mn mc M (X p) _ (by omega) (hO.iatF hD.m)) (fun e3 w4 hp5 => ?_)
  obtain ⟨rfl, hb1⟩ := hp5
  refine ⟨_, rfl, ?_⟩
  have hO6 := hO.past hb1
  refine rl_v rfl rfl rfl (ov_not rfl rfl) <| rl_v rfl rfl rfl (ov_move rfl rfl) ?_
  first | refine rl_split_dec 25 rfl (fun g1 => ?_) (fun g1 => ?_) | refine rl_split 25 rfl (fun g1 => ?_) (fun g1 => ?_)
  ·refine rl_gskip rfl rfl rfl rfl rfl rfl <| rl_gskip rfl rfl rfl rfl rfl rfl <| rl_gskip rfl rfl rfl rfl rfl rfl <| rl_v rfl rfl rfl (ov_pick_t rfl rfl rfl) <| rl_nil <| run_cond_t rfl ?_
   have hni : ¬ InI M mn (X p) := fun ⟨j, hj, e⟩ => by have h2 : rk M mn (X p) < mn := inL_rk.2 ⟨j, hj, e⟩; simp [h2] at g1
   refine run_exit rfl <| run_region <| rl_v rfl rfl rfl (ov_add rfl rfl rfl (by omega)) ?_
   refine rl_v rfl rfl rfl (ov_move rfl rfl) <| rl_nil ?_
   refine Run.use (ih2 (p + 1) (s1) (Lm) (Ls1) _ ?_ ?_) (And.intro (by exact slot_int rfl (by first | omega)) (And.intro rfl (And.intro rfl (And.intro rfl (And.intro rfl (And.intro rfl (And.intro rfl (And.intro rfl trivial))))))))
   ·first | omega | (dsimp only; omega)
   ·exact ⟨by omega, by omega, hL, fun j j0 j1 hj => by by_cases e : j = p; (rw [e] at hj; exact absurd hj hni); (exact hall j j0 (by omega) hj), hMS1, hMO, hO6⟩
  ·have hin : InI M mn (X p) := by
    have h2 : rk M mn (X p) < mn := by simpa using g1
    exact inL_rk.1 h2
   have hXr := hD.mb.in_rng hin
   have hopp : opD M mn who FL ML FE ME i (X p) := (hop _).2 ⟨hin, p, ⟨hp0, h1⟩, rfl⟩
   refine rl_gv rfl rfl rfl rfl rfl (ov_move rfl rfl) <| rl_gv rfl rfl rfl rfl rfl (ov_move rfl rfl) <| rl_gv rfl rfl rfl rfl rfl (ovV (ov_lookup rfl Try.underlying122 Try.underlying3 rfl rfl rfl (hO6.mapAt 1 rfl)) (hMS1.getD hXr.1 hXr.2)) <| rl_v rfl rfl rfl (ov_pick_f rfl rfl rfl) <| rl_nil ?_
   first | refine run_cond_dec rfl (fun g2 => ?_) (fun g2 => ?_) | refine run_cond rfl (fun g2 => ?_) (fun g2 => ?_)
   ·refine run_exit rfl <| run_region <| rl_v rfl rfl rfl (ov_add rfl rfl rfl (by omega)) ?_
    refine rl_v rfl rfl rfl (ov_move rfl rfl) <| rl_nil ?_
    refine Run.use (ih2 (p + 1) (s1) (Lm) (Ls1) _ ?_ ?_) (And.intro (by exact slot_int rfl (by first | omega)) (And.intro rfl (And.intro rfl (And.intro rfl (And.intro rfl (And.intro rfl (And.intro rfl (And.intro rfl trivial))))))))
    ·first | omega | (dsimp only; omega)
    ·exact ⟨by omega, by omega, hL, fun j j0 j1 hj => by by_cases e : j = p; (rw [e]; exact g2); (exact hall j j0 (by omega) hj), hMS1, hMO, hO6⟩
   ·have hsk : s1 (X p) = false := by cases e : s1 (X p); rfl; rw [e] at g2; exact Bool.noConfusion g2
    refine run_skip <| run_seq <| run_region <| rl_v rfl rfl rfl (ov_move rfl rfl) <| rl_v rfl rfl rfl (ov_move rfl rfl) <| rl_ow rfl (ow_mapput rfl rfl Try.underlying122 Try.underlying3 hO6 1 rfl rfl rfl rfl) ?_
    rintro _ w8 ⟨rfl, hO9, hs10⟩
    have hMS2 := hMS1.put (k := X p)
    refine rl_nil <| run_seq <| run_region <| rl_v rfl rfl rfl (ov_load rfl Try.underlying100 rfl rfl (by exact hO9.cellL 5 rfl (off := 0) rfl)) ?_
    refine rl_v rfl rfl rfl (ov_move rfl rfl) <| rl_v rfl rfl rfl (ov_lookO rfl Try.underlying100 Try.underlying3 rfl rfl rfl (hO9.mapAt 0 rfl) (hMO (X p) hXr.1 hXr.2)) <| rl_v rfl rfl rfl (ov_move rfl rfl) <| rl_v rfl rfl rfl (ov_extract rfl rfl (by rfl)) ?_
    refine rl_v rfl rfl rfl (ov_extract rfl rfl (by rfl)) ?_
    refine rl_v rfl rfl rfl (ov_assign rfl rfl) <| rl_v rfl rfl rfl (ov_assign rfl rfl) <| rl_nil <| run_seq <| run_region <| rl_v rfl rfl rfl (ov_move rfl rfl) <| rl_v rfl rfl rfl (ov_not rfl rfl) <| rl_v rfl rfl rfl (ov_move rfl rfl) ?_
    first | refine rl_split_dec 40 rfl (fun g3 => ?_) (fun g3 => ?_) | refine rl_split 40 rfl (fun g3 => ?_) (fun g3 => ?_)
    ·refine rl_gskip rfl rfl rfl rfl rfl rfl <| rl_gskip rfl rfl rfl rfl rfl rfl <| rl_gskip rfl rfl rfl rfl rfl rfl <| rl_gskip rfl rfl rfl rfl rfl rfl <| rl_v rfl rfl rfl (ov_pick_t rfl rfl rfl) <| rl_nil <| run_cond_t rfl ?_
     have hfree : of (X p) < 0 := by
      have : ¬ 0 ≤ of (X p) := by simpa using g3
      omega
     refine run_seq <| run_region <| rl_v rfl rfl rfl (ov_load rfl Try.underlying100 rfl rfl (by exact hO9.cellL 5 rfl (off := 0) rfl)) ?_
     refine rl_v rfl rfl rfl (ov_move rfl rfl) <| rl_v rfl rfl rfl (ov_move rfl rfl) <| rl_ow rfl (ow_mapput rfl rfl Try.underlying100 Try.underlying3 hO9 0 rfl rfl rfl rfl) ?_
     rintro _ w12 ⟨rfl, hO13, hs14⟩
     refine rl_nil <| run_seq <| run_region <| rl_v rfl rfl rfl (ov_assign rfl rfl) <| rl_nil <| run_ret Try.func83 (res1 Try.results83 rfl) ?_
     exact ⟨true, _, _, _, _, rfl, hMO.put i0, hO13, hMS2, fun _ => ⟨KS.free hok hL hXr.1 hXr.2 hsk hfree i0 hopp, fun j j0 j1 => by unfold upd; split; exact i1; exact (hofr j j0 j1).2⟩, fun h => Bool.noConfusion h⟩
    ·have hown : 0 ≤ of (X p) := by simpa using g3
     have hm := uns_mark hXr.1 hXr.2 hsk
     have hle := uns_le hL.sub
     have hnn := uns_nonneg (upd s1 (X p) true) n
     have hofk := hofr (X p) hXr.1 hXr.2
     rw [if_pos hown]
     refine rl_gv rfl rfl rfl rfl rfl (ov_move rfl rfl) <| rl_gv rfl rfl rfl rfl rfl (ov_move rfl rfl) <| rl_gv rfl rfl rfl rfl rfl (ov_move rfl rfl) ?_
     refine rl_gcall callable_84 rfl rfl rfl rfl rfl rfl rfl rfl (ih (uns (upd s1 (X p) true) n).toNat (by omega) (of (X p)) of (upd s1 (X p) true) Lm _ sm _ (by omega) ⟨hown, hofk.2, hofr, hok, hMO, hMS2, hO9⟩) (fun e15 w16 hp17 => ?_)
     obtain ⟨b, of1, s2, Lm2, Ls2, rfl, hMO2, hO2, hMS3, hSb, hFb⟩ := hp17
     refine ⟨_, rfl, ?_⟩
     refine rl_v rfl rfl rfl (ov_pick_f rfl rfl rfl) <| rl_nil ?_
     first | refine run_cond_dec rfl (fun g4 => ?_) (fun g4 => ?_) | refine run_cond rfl (fun g4 => ?_) (fun g4 => ?_)
     ·obtain ⟨hS1, hS2⟩ := hSb g4
      refine run_seq <| run_region <| rl_v rfl rfl rfl (ov_load rfl Try.underlying100 rfl rfl (by exact hO2.cellL 5 rfl (off := 0) rfl)) ?_
      refine rl_v rfl rfl rfl (ov_move rfl rfl) <| rl_v rfl rfl rfl (ov_move rfl rfl) <| rl_ow rfl (ow_mapput rfl rfl Try.underlying100 Try.underlying3 hO2 0 rfl rfl rfl rfl) ?_
      rintro _ w18 ⟨rfl, hO19, hs20⟩
      refine rl_nil <| run_seq <| run_region <| rl_v rfl rfl rfl (ov_assign rfl rfl) <| rl_nil <| run_ret Try.func83 (res1 Try.results83 rfl) ?_
      exact ⟨true, _, _, _, _, rfl, hMO2.put i0, hO19, hMS3, fun _ => ⟨KS.push hL hXr.1 hXr.2 hsk i0 hopp hS1, fun j j0 j1 => by unfold upd; split; exact i1; exact hS2 j j0 j1⟩, fun h => Bool.noConfusion h⟩
     ·have hbf : b = false := by cases b; rfl; exact Bool.noConfusion g4
      obtain ⟨e1, hF1⟩ := hFb hbf
      have hL2 := hL.step hXr.1 hXr.2 hown hF1
      have hMO3 : MOf Lm2 n of := by rw [← e1]; exact hMO2
      refine run_skip <| run_inBlock <| run_region <| rl_v rfl rfl rfl (ov_add rfl rfl rfl (by omega)) ?_
      refine rl_v rfl rfl rfl (ov_move rfl rfl) <| rl_nil ?_
      refine Run.use (ih2 (p + 1) (s2) (Lm2) (Ls2) _ ?_ ?_) (And.intro (by exact slot_int rfl (by first | omega)) (And.intro rfl (And.intro rfl (And.intro rfl (And.intro rfl (And.intro rfl (And.intro rfl (And.intro rfl trivial))))))))
      ·first | omega | (dsimp only; omega)
      ·exact ⟨by omega, by omega, hL2, fun j j0 j1 hj => (by have hjr := hD.mb.in_rng hj; exact hF1.l.sub _ hjr.1 hjr.2 (by by_cases e : j = p; (rw [e, upd_same]); (unfold upd; split; rfl; exact hall j j0 (by omega) hj))), hMS3, hMO3, hO2⟩
 ·refine run_exit rfl <| run_seq <| run_region <| rl_v rfl rfl rfl (ov_assign rfl rfl) <| rl_nil <| run_ret Try.func83 (res1 Try.results83 rfl) ?_
  exact ⟨false, of, s1, Lm, Ls1, rfl, hMO, hO, hMS1, fun h => Bool.noConfusion h, fun _ => ⟨rfl, hL, fun k k0 k1 hk => by obtain ⟨hk1, j, ⟨j0, j1⟩, e⟩ := (hop k).1 hk; rw [← e] at hk1 ⊢; exact hall j j0 (by omega) hk1⟩⟩
set_option maxHeartbeats 4000000 in
theorem give_any : ∀ (u : Nat) (i : Int) (of : Int → Int) (s : Int → Bool) (Lm Ls : List (Int × Value)) (sm : Nat) (w : World), uns s n = u → GiveS B w0 w (dealR ma fa ra mn mc n fc rc mb bm bmm bc bw bgv bge who) n mb sm (opD M mn who FL ML FE ME) i of s Lm Ls →
   Calls Try.prog 84 #[iv i, .map (some sm), ptr bc, ptr bw, ptr bgv, ptr bge] w (GiveQ B w0 (dealR ma fa ra mn mc n fc rc mb bm bmm bc bw bgv bge who) n mb sm (opD M mn who FL ML FE ME) i of s) := by
 intro u
 induction u using Nat.strongRecOn with
 | ind u ih =>
  intro i of s Lm Ls sm w hu hS
  have hn := hD.n64
  obtain ⟨A, C, hf1, hf2, hf3⟩ := id hD.f
  obtain ⟨A', C', hr1, hr2, hr3⟩ := id hD.r
  obtain ⟨fb, fo, hfa, hfrow⟩ := hf1.open
  obtain ⟨rb, ro, hra, hrrow⟩ := hr1.open
  have hi0 := hS.i0
  have hi1 := hS.i1
  refine calls_of_run (F := [(0, _), (1, _), (2, _), (3, _), (4, _), (5, _)]) Try.func84 rfl Try.ntmps84 rfl rfl <| run_seq <| run_region <| rl_v rfl rfl rfl (ov_assign rfl rfl) <| rl_nil <| run_seq <| run_region <| rl_v rfl rfl rfl (ov_fieldS rfl Try.underlying89 rfl (fo := 0) rfl (by kernel_rfl) rfl) ?_
  refine rl_v rfl rfl rfl (ov_load rfl Try.underlying22 rfl rfl (by exact hS.o.cellL 2 rfl (off := 0) rfl)) ?_
  refine rl_v rfl rfl rfl (ov_move rfl rfl) <| rl_v rfl rfl rfl (ov_index1 rfl Try.underlying22 (by kernel_rfl) rfl rfl ⟨by omega, by omega⟩ (by exact hfa (by omega))) ?_
  refine rl_v rfl rfl rfl (ov_load rfl Try.underlying23 rfl rfl (by exact hfrow _ hS.o.below _ (by omega) (by omega))) ?_
  refine rl_v rfl rfl rfl (ov_assign rfl rfl) <| rl_nil <| run_seq <| run_seq <| run_region <| rl_v rfl rfl rfl (ov_move rfl rfl) <| rl_v rfl rfl rfl (ov_load rfl Try.underlying3 rfl rfl (by exact hS.o.cellL 4 rfl (off := 0) rfl)) ?_
  refine rl_v rfl rfl rfl (ov_eql rfl rfl rfl) <| rl_nil ?_
  first | refine run_cond_dec rfl (fun c1 => ?_) (fun c1 => ?_) | refine run_cond rfl (fun c1 => ?_) (fun c1 => ?_)
  ·refine run_region <| rl_v rfl rfl rfl (ov_fieldS rfl Try.underlying89 rfl (fo := 1) rfl (by kernel_rfl) rfl) ?_
   refine rl_v rfl rfl rfl (ov_load rfl Try.underlying22 rfl rfl (by exact hS.o.cellL 2 rfl (off := 1) rfl)) ?_
   refine rl_v rfl rfl rfl (ov_move rfl rfl) <| rl_v rfl rfl rfl (ov_index1 rfl Try.underlying22 (by kernel_rfl) rfl rfl ⟨by omega, by omega⟩ (by exact hra (by omega))) ?_
   refine rl_v rfl rfl rfl (ov_load rfl Try.underlying23 rfl rfl (by exact hrrow _ hS.o.below _ (by omega) (by omega))) ?_
   refine rl_v rfl rfl rfl (ov_assign rfl rfl) <| rl_nil <| run_seq <| run_region <| rl_v rfl rfl rfl (ov_load rfl Try.underlying125 rfl rfl (by exact hS.o.cellL 6 rfl (off := 0) rfl)) ?_
   refine rl_v rfl rfl rfl (ov_move rfl rfl) <| rl_v rfl rfl rfl (ov_move rfl rfl) <| rl_v rfl rfl rfl (ov_move rfl rfl) <| rl_v rfl rfl rfl (ov_load rfl Try.underlying123 rfl rfl (by exact hS.o.cellL 7 rfl (off := 0) rfl)) ?_
   refine rl_call callable_83 rfl rfl rfl rfl rfl rfl (given_any hD mc fc rc mb bm bmm bc bw bgv bge who u ih (A' i) (ML i) (C' i) (ME i) (hD.ml i hi0 hi1) (hr3 i hi0 hi1) i of s Lm Ls sm _ (fun k => by unfold opD; rw [if_pos c1]) hu hS) (fun e1 w2 hp3 => ?_)
   obtain ⟨b, of', s', Lm', Ls', rfl, h1, h2, h3, h4, h5⟩ := hp3
   refine ⟨_, rfl, ?_⟩
   refine rl_v rfl rfl rfl (ov_assign rfl rfl) <| rl_nil <| run_ret Try.func84 (res1 Try.results84 rfl) ?_
   exact ⟨b, of', s', Lm', Ls', rfl, h1, h2, h3, h4, h5⟩
  ·refine run_skip <| run_seq <| run_region <| rl_v rfl rfl rfl (ov_load rfl Try.underlying125 rfl rfl (by exact hS.o.cellL 6 rfl (off := 0) rfl)) ?_
   refine rl_v rfl rfl rfl (ov_move rfl rfl) <| rl_v rfl rfl rfl (ov_move rfl rfl) <| rl_v rfl rfl rfl (ov_move rfl rfl) <| rl_v rfl rfl rfl (ov_load rfl Try.underlying123 rfl rfl (by exact hS.o.cellL 7 rfl (off := 0) rfl)) ?_
   refine rl_call callable_83 rfl rfl rfl rfl rfl rfl (given_any hD mc fc rc mb bm bmm bc bw bgv bge who u ih (A i) (FL i) (C i) (FE i) (hD.fl i hi0 hi1) (hf3 i hi0 hi1) i of s Lm Ls sm _ (fun k => by unfold opD; rw [if_neg c1]) hu hS) (fun e4 w5 hp6 => ?_)
   obtain ⟨b, of', s', Lm', Ls', rfl, h1, h2, h3, h4, h5⟩ := hp6
   refine ⟨_, rfl, ?_⟩
   refine rl_v rfl rfl rfl (ov_assign rfl rfl) <| rl_nil <| run_ret Try.func84 (res1 Try.results84 rfl) ?_
   exact ⟨b, of', s', Lm', Ls', rfl, h1, h2, h3, h4, h5⟩
end
end Go.Proofs.Ytlldeifbfpmbaaa
