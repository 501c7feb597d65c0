import Derived.Test.YtlldeifbfpmbaaaTb9
import Derived.Test.YtlldeifbfpmbaaaFdB
import Derived.Test.YtlldeifbfpmbaaaFeF
import Derived.Test.YtlldeifbfpmbaaaFiA
import Derived.Laws.StructEq
set_option maxRecDepth 100000
namespace Go.Proofs.Ytlldeifbfpmbaaa
open Go.RowKit Go.Proofs Go.MapKept
theorem lists5_any (ao : Option Addr) (n c most long : Nat) (L : Int → Nat) (F : Int → Int → Int) (w : World) (hm : most ≤ 1000) (hl : long ≤ 1000) (h : RTab w.heap.size w ao n L F) :
  Calls Try.prog 34 #[.slice ao n c, iv most, iv long] w fun e w' => ∃ v cv H, e = .returned (.slice v (min n most) cv) ∧ min n most ≤ cv ∧ OTab (.slice v (min n most) cv) 23 3 (min n most) (fun r => min (L r) long) (fun r c => iv (F r c)) H ∧ Own w.heap.size w w' H := by
 obtain ⟨A, C, h1, hroom, hcan⟩ := h
 obtain ⟨gb, go, hga, hrow⟩ := h1.open
 refine calls_of_run (F := [(0, _), (1, _), (2, _)]) Try.func34 rfl Try.ntmps34 rfl rfl ?_
 have hO0 := Own.init w
 refine run_seq <| run_region <| rl_v rfl rfl rfl (ov_assign rfl rfl) <| rl_nil <| run_seq <| run_region <| rl_v rfl rfl rfl (ov_assign rfl rfl) <| rl_nil <| run_seq <| run_seq <| run_region <| rl_v rfl rfl rfl (ov_assign rfl rfl) <| rl_nil <| run_block <| Run.keep [0, 1, 2, 7, 8] (F' := [(0, _), (1, _), (2, _), (7, _), (8, _)]) rfl <| run_loop4 (fun (i : Int) (q : Nat) (v : Option Addr) (cq : Nat) => [(8, .int .i64 i), (7, .slice v q cq)]) [0, 1, 2] (fun (i : Int) (q : Nat) (v : Option Addr) (cq : Nat) (w1 : World) => i = q ∧ q ≤ min n most ∧ ∃ Hm : List (Option Blk), OTab (.slice v q cq) 23 3 q (fun r => min (L r) long) (fun r c => iv (F r c)) Hm ∧ q ≤ cq ∧ Own w.heap.size w w1 Hm) (fun (i : Int) (q : Nat) (v : Option Addr) (cq : Nat) => min n most - q) (0) (0) (none) (0) ?_ (And.intro (by exact slot_int rfl (by first | omega)) (And.intro rfl (And.intro rfl (And.intro rfl (And.intro rfl trivial))))) ?_
 ·exact ⟨rfl, by omega, [none], OTab.nil _ _ _ _, Nat.le_refl 0, hO0.nil_cons⟩
 intro i q v cq w1 hIw1 ih2
 obtain ⟨hiq, hqm, Hm, hTb, hcq, hO⟩ := hIw1
 show Run _ _ _ _ [(8, _), (7, _), (0, _), (1, _), (2, _)] _ _
 refine run_seq <| run_seq <| run_region_join 18 (.bool (decide (i < min n most))) [0, 1, 2, 7, 8] (fun hk3 => ?_) ?_
 ·refine rl_v rfl rfl rfl (ov_move rfl rfl) <| rl_v rfl rfl rfl (ov_move rfl rfl) <| rl_v rfl rfl rfl (ov_len rfl Try.underlying22 rfl) <| rl_v rfl rfl rfl (ov_lss rfl rfl rfl) <| rl_v rfl rfl rfl (ov_move rfl rfl) ?_
  first | refine rl_split_dec 14 rfl (fun hg4 => ?_) (fun hg4 => ?_) | refine rl_split 14 rfl (fun hg4 => ?_) (fun hg4 => ?_)
  ·refine rl_gv rfl rfl rfl rfl rfl (ov_move rfl rfl) <| rl_gv rfl rfl rfl rfl rfl (ov_move rfl rfl) <| rl_gv rfl rfl rfl rfl rfl (ov_lss rfl rfl rfl) <| rl_v rfl rfl rfl (ov_pick_t rfl rfl rfl) ?_
   refine rl_nil (hk3 _ (jbd rfl (by omega)) (And.intro rfl (And.intro rfl (And.intro rfl (And.intro rfl (And.intro rfl trivial))))))
  ·refine rl_gskip rfl rfl rfl rfl rfl rfl <| rl_gskip rfl rfl rfl rfl rfl rfl <| rl_gskip rfl rfl rfl rfl rfl rfl <| rl_v rfl rfl rfl (ov_pick_f rfl rfl rfl) ?_
   refine rl_nil (hk3 _ (jbf rfl (by omega)) (And.intro rfl (And.intro rfl (And.intro rfl (And.intro rfl (And.intro rfl trivial))))))
 ·show Run _ _ _ _ [(18, _), (0, _), (1, _), (2, _), (7, _), (8, _)] _ _
  first | refine run_cond_dec rfl (fun c1 => ?_) (fun c1 => ?_) | refine run_cond rfl (fun c1 => ?_) (fun c1 => ?_)
  ·have hi0 : 0 ≤ i := by omega
   have hLi := hroom i hi0 (by omega)
   have hOn := hO.nil_cons
   refine run_skip <| run_seq <| run_block <| run_seq <| run_region <| rl_v rfl rfl rfl (ov_assign rfl rfl) <| rl_nil <| run_seq <| run_tail 13 mixed (by kernel_rfl) ?_
   have hO6 := hOn.drew
   generalize World.drew w1 = w5 at hO6 ⊢
   refine rt_v rfl rfl rfl (ov_move rfl rfl) <| rt_v rfl rfl rfl (ov_move rfl rfl) <| rt_v rfl rfl rfl (ov_move rfl rfl) <| rt_v rfl rfl rfl (ov_index1 rfl Try.underlying22 (by kernel_rfl) rfl rfl ⟨by omega, by omega⟩ (by exact hga (by omega))) ?_
   refine rt_v rfl rfl rfl (ov_load rfl Try.underlying23 rfl rfl (by exact hrow _ hO6.below _ (by omega) (by omega))) ?_
   refine rt_v rfl rfl rfl (ov_move rfl rfl) <| rt_v rfl rfl rfl (ov_move rfl rfl) <| rt_v rfl rfl rfl (ov_index1 rfl Try.underlying22 (by kernel_rfl) rfl rfl ⟨by omega, by omega⟩ (by exact hga (by omega))) ?_
   refine rt_v rfl rfl rfl (ov_load rfl Try.underlying23 rfl rfl (by exact hrow _ hO6.below _ (by omega) (by omega))) ?_
   refine rt_v rfl rfl rfl (ov_len rfl Try.underlying23 rfl) <| rt_v rfl rfl rfl (ov_move rfl rfl) <| rt_v rfl rfl rfl (ov_min rfl rfl rfl) <| rt_v rfl rfl rfl (ov_sliceH (min (L i) long) (s := 1) rfl Try.underlying23 (by kernel_rfl) rfl rfl (by omega) (by omega)) ?_
   refine rt_nil <| rl_ow rfl (ow_appS rfl rfl rfl Try.underlying23 info_3 rfl hO6 0 (IRow.nil 3 (fun _ => iv 0)) rfl rfl rfl (((hO6.iatF (hcan i hi0 (by omega))).take (by omega))) (fun _ => rfl) ⟨by omega, by omega⟩) ?_
   rintro _ w7 ⟨v34, c34, rfl, hO8, hr34, hs9⟩
   obtain ⟨a34, cp34, rfl⟩ := hr34.val
   obtain ⟨co, rv, ch, rfl, hv, h3t⟩ := hTb
   refine rl_v rfl rfl rfl (ov_assign rfl rfl) <| rl_nil <| run_region <| rl_v rfl rfl rfl (ov_move rfl rfl) <| rl_v rfl rfl rfl (ov_move rfl rfl) ?_
   refine rl_appV rfl rfl rfl rfl rfl rfl rfl rfl Try.underlying22 info_23 rfl hO8 1 hv rfl rfl rfl rfl ⟨by omega, by omega⟩ (fun v38 c38 w10 hO11 hv38 hs12 => ?_)
   obtain ⟨a38, cp38, rfl⟩ := hv38.val
   have hcp38 := hv38.capF
   have hO6 : Own w.heap.size w w10 (c34 :: c38 :: ((List.range q).map ch ++ [])) := by rw [List.append_nil]; exact hO11
   obtain ⟨H', hT', hO8⟩ := OTab.snoc (L := fun r => min (L r) long) (F := fun r c => iv (F r c)) h3t hr34 hv38 hO6 (by rw [← hiq, Nat.zero_add]) (fun j _ _ => by unfold joinF; rw [if_neg (by omega), ← hiq]; exact congrArg (fun k => iv (F i k)) (by omega))
   refine rl_v rfl rfl rfl (ov_assign rfl rfl) <| rl_nil <| run_inBlock <| run_region <| rl_v rfl rfl rfl (ov_move rfl rfl) <| rl_v rfl rfl rfl (ov_add rfl rfl rfl (by omega)) ?_
   refine rl_v rfl rfl rfl (ov_assign rfl rfl) <| rl_nil ?_
   refine Run.use (ih2 (i + 1) (q + 1) (a38) (cp38) _ ?_ ?_) (And.intro (by exact slot_int rfl (by first | omega)) (And.intro rfl (And.intro rfl (And.intro rfl (And.intro rfl trivial)))))
   ·first | omega | (dsimp only; omega)
   ·exact ⟨by omega, by omega, H', hT', hcp38, by rw [List.append_nil] at hO8; exact hO8⟩
  ·obtain rfl : q = min n most := by omega
   refine run_exit rfl <| run_seq <| run_region <| rl_v rfl rfl rfl (ov_move rfl rfl) <| rl_v rfl rfl rfl (ov_assign rfl rfl) <| rl_nil <| run_ret Try.func34 (res1 Try.results34 rfl) ?_
   exact ⟨v, cq, Hm, rfl, hcq, hTb, hO⟩
end Go.Proofs.Ytlldeifbfpmbaaa
set_option maxRecDepth 100000
namespace Go.Proofs.Ytlldeifbfpmbaaa
open Go.RowKit Go.Proofs Go.MapKept
theorem IRow.cellA {ao : Option Addr} {m cap b : Nat} {E : TypeId} {n : Nat} {G : Int → Value} {c : Option Blk} {B : Nat} {w0 w : World} {H : List (Option Blk)} (h : IRow (.slice ao m cap) E n G c) (ho : Own B w0 w H) (k : Nat) (hk : H[k]? = some c) (ha : ao = some ⟨b, 0, none⟩) {i : Int} (i0 : 0 ≤ i) (i1 : i < n) : w.cell? ⟨b, 0 + i.toNat, none⟩ = some (G i) := by
 obtain ⟨b', e, r⟩ := h.openS ho k hk
 have := e (by omega)
 rw [ha] at this
 cases this
 exact r i i0 i1
theorem tab_take {B : Nat} {w0 w : World} {v : Value} {T1 T2 : TypeId} {n : Nat} {L : Int → Nat} {F : Int → Int → Value} {H R : List (Option Blk)} {a b : Option Blk} (h : OTab v T1 T2 n L F H) (ho : Own B w0 w (a :: b :: (H ++ R))) (i : Nat) (hi : i < n) :
  ∃ (c : Option Blk) (rv : Int → Value) (ch : Nat → Option Blk), IRow v T1 n rv c ∧ (∀ r : Nat, r < n → IRow (rv r) T2 (L r) (F r) (ch r)) ∧ Own B w0 w (a :: b :: ch i :: c :: (((List.range n).erase i).map ch ++ R)) := by
 obtain ⟨c, rv, ch, rfl, h2, h3⟩ := h
 refine ⟨c, rv, ch, h2, h3, ho.perm (((?_ : List.Perm _ _).cons b).cons a)⟩
 have p := (List.perm_cons_erase (List.mem_range.2 hi)).map ch
 exact ((p.append_right R).cons c).trans (List.Perm.swap _ _ _)
theorem tab_put {B : Nat} {w0 w : World} {v x : Value} {T1 T2 : TypeId} {n m : Nat} {L : Int → Nat} {F : Int → Int → Value} {G : Int → Value} {R : List (Option Blk)} {a b y c cr : Option Blk} {rv : Int → Value} {ch : Nat → Option Blk} (i : Nat) (hi : i < n)
  (hv : IRow v T1 n (upd rv i x) c) (h3 : ∀ r : Nat, r < n → IRow (rv r) T2 (L r) (F r) (ch r)) (hx : IRow x T2 m G cr) (ho : Own B w0 w (cr :: a :: b :: y :: c :: (((List.range n).erase i).map ch ++ R))) :
  ∃ H, OTab v T1 T2 n (upd L i m) (upd F i G) H ∧ Own B w0 w (a :: b :: (H ++ R)) := by
 have ho2 := ho.sub (.cons_cons _ (.cons_cons _ (.cons_cons _ (.cons _ (.refl _)))))
 have p1 : (cr :: a :: b :: c :: (((List.range n).erase i).map ch ++ R)).Perm (cr :: c :: (((List.range n).erase i).map ch ++ (a :: b :: R))) := by
  refine List.Perm.cons _ ?_
  refine List.Perm.trans ?_ (List.perm_middle (l₁ := c :: ((List.range n).erase i).map ch)).symm
  exact ((List.perm_middle (l₁ := c :: ((List.range n).erase i).map ch)).symm).cons a
 obtain ⟨H, hT, hO⟩ := OTab.put9 i hi hv h3 hx (ho2.perm p1)
 exact ⟨H, hT, hO.perm (List.perm_middle.trans ((List.perm_middle).cons a))⟩
theorem updE {k : Nat} {E1 : Int → Int → Int} {E : Int → Int} : ∀ r c : Int, upd (fun r c => iv (E1 r c)) (k : Int) (fun i => iv (E i)) r c = iv (upd E1 (k : Int) E r c) := fun r c => by
 unfold upd
 split <;> rfl
structure TdL (k n N : Nat) (L : Int → Nat) (E : Int → Int → Int) : Prop where
 len : ∀ r : Int, 0 ≤ r → r < n → L r ≤ 12
 is : ∀ r : Int, 0 ≤ r → r < k → IsL (L r) (E r) N
theorem TdL.step {q n N k : Nat} {L : Int → Nat} {E : Int → Int → Int} {X : Int → Int} (h : TdL q n N L E) (hk : k ≤ 12) (hX : IsL k X N) : TdL (q + 1) n N (upd L (q : Int) k) (upd E (q : Int) X) := by
 refine ⟨fun r r0 r1 => ?_, fun r r0 r1 => ?_⟩
 ·unfold upd
  split
  ·exact hk
  ·exact h.len r r0 r1
 ·by_cases e : r = q
  ·rw [e, upd_same, upd_same]; exact hX
  ·rw [upd_ne _ _ e, upd_ne _ _ e]; exact h.is r r0 (by omega)
end Go.Proofs.Ytlldeifbfpmbaaa
set_option maxRecDepth 100000
namespace Go.Proofs.Ytlldeifbfpmbaaa
open Go.RowKit Go.Proofs Go.MapKept
section
variable (ga ba qa la : Option Addr) (gc bc qc nq ln lc : Nat) (f : Fair) (l : Int → Int) (w : World) (hlg : Lg5 f nq) (hF : FAg w.heap.size w ga ba qa f nq) (hln : ln ≤ 1000000) (hl : IAt w.heap.size w la ln (fun i => iv (l i)))
include hlg hF
include hln hl
end
end Go.Proofs.Ytlldeifbfpmbaaa
set_option maxRecDepth 100000
namespace Go.Proofs.Ytlldeifbfpmbaaa
open Go.RowKit Go.Proofs Go.MapKept
noncomputable def dB (p : Prop) : Bool := @decide p (Classical.propDecidable p)
theorem dB_iff {p : Prop} : dB p = true ↔ p := @decide_eq_true_iff p (Classical.propDecidable p)
theorem dB_of {b : Bool} {p : Prop} (h : b = true ↔ p) : b = dB p := by
 cases b
 ·cases e : dB p
  ·rfl
  ·exact h.2 (dB_iff.1 e)
 ·exact (dB_iff.2 (h.1 rfl)).symm
theorem callsDB {f : FuncId} {args : Array Value} {w : World} {p : Prop} {B : World → Prop} (h : Calls Try.prog f args w fun e w' => (∃ b, e = .returned (.bool b) ∧ (b = true ↔ p)) ∧ B w') : Calls Try.prog f args w fun e w' => e = .returned (.bool (dB p)) ∧ B w' :=
 h.mono fun _ _ ⟨⟨b, h1, h2⟩, h3⟩ => ⟨by rw [h1, dB_of h2], h3⟩
section
variable (ga ba qa la : Option Addr) (gc bc qc nq ln lc : Nat) (f : Fair) (l : Int → Int) (w : World) (hlg : Lg5 f nq) (hF : FAg w.heap.size w ga ba qa f nq) (hln : ln ≤ 1000000) (hl : IAt w.heap.size w la ln (fun i => iv (l i)))
include hlg hF hln hl
end
end Go.Proofs.Ytlldeifbfpmbaaa
