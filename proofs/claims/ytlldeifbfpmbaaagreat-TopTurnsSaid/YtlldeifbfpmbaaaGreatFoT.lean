import Derived.Test.YtlldeifbfpmbaaaGreatFjA
import Derived.Test.YtlldeifbfpmbaaaGreatFcC
import Derived.Test.YtlldeifbfpmbaaaGreatGow
import Derived.Test.YtlldeifbfpmbaaaGreatFoN
import Derived.Test.YtlldeifbfpmbaaaGreatGbD
import Derived.Test.YtlldeifbfpmbaaaGreatFhA
import Derived.Test.YtlldeifbfpmbaaaGreatFgC
import Derived.Test.YtlldeifbfpmbaaaGreatLaw0
import Derived.Test.YtlldeifbfpmbaaaGreatFiC
set_option maxRecDepth 100000
namespace Go.Proofs.YtlldeifbfpmbaaaGreat
open Go.RowKit Go.Proofs Go.MapKept
section
variable (ga ba qa aa xa : Option Addr) (gc bc qc an ac xn xc : Nat) (f : Fair) (a b : Int → Int) (w : World) (hV : Valid5 f f.m) (hF : FAg w.heap.size w ga ba qa f f.m) (han : an ≤ 1000000) (hxn : xn ≤ 1000000) (ha : IAt w.heap.size w aa an (fun i => iv (a i))) (hb : IAt w.heap.size w xa xn (fun i => iv (b i)))
include hV hF han hxn ha hb
end
end Go.Proofs.YtlldeifbfpmbaaaGreat
set_option maxRecDepth 100000
namespace Go.Proofs.YtlldeifbfpmbaaaGreat
open Go.RowKit Go.Proofs Go.MapKept
namespace Fair
theorem AllTo.same {f : Fair} {N1 N2 V : Nat} {A1 A2 : Nat → Int → Int} (h1 : f.AllTo N1 A1 V) (h2 : f.AllS N2 A2) : ∀ i : Nat, i < N1 → i < N2 ∧ val f.m (A1 i) f.n = val f.m (A2 i) f.n := by
 intro i
 induction i using Nat.strongRecOn with
 | _ i ih =>
  intro hi
  obtain ⟨k, hk, e⟩ := h2.all (A1 i) (h1.st i hi)
  have ev : val f.m (A2 k) f.n = val f.m (A1 i) f.n := val_congr e
  rcases Nat.lt_trichotomy k i with c | c | c
  ·have e2 := (ih k c (by omega)).2
   have := h1.inc k i c hi
   omega
  ·rw [← c]; exact ⟨hk, by rw [ev, c]⟩
  ·have hlt := h2.inc i k c hk
   have hVi := h1.lt i hi
   obtain ⟨j, hj, e3⟩ := h1.all (A2 i) (h2.st i (by omega)) (by omega)
   have ev3 : val f.m (A1 j) f.n = val f.m (A2 i) f.n := val_congr e3
   have hji : j < i := by
    rcases Nat.lt_trichotomy j i with d | d | d
    ·exact d
    ·rw [d] at ev3; omega
    ·have := h1.inc i j d hj; omega
   have e4 := (ih j hji hj).2
   have := h2.inc j i hji (by omega)
   omega
theorem AllTo.len_le {f : Fair} {N1 N2 V : Nat} {A1 A2 : Nat → Int → Int} (h1 : f.AllTo N1 A1 V) (h2 : f.AllS N2 A2) : N1 ≤ N2 := by
 by_cases c : N1 = 0
 ·omega
 ·have := (h1.same h2 (N1 - 1) (by omega)).1; omega
theorem AllTo.len_eq {f : Fair} {N1 N2 : Nat} {A1 A2 : Nat → Int → Int} (h1 : f.AllTo N1 A1 ((0 + 1) * (f.m + 1) ^ f.n)) (h2 : f.AllS N2 A2) : N1 = N2 := by
 have hle := h1.len_le h2
 refine Classical.byContradiction fun hne => ?_
 have hst := h2.st N1 (by omega)
 obtain ⟨j, hj, e⟩ := h1.all (A2 N1) hst (by rw [Nat.zero_add, Nat.one_mul]; exact val_pow (Nat.le_refl _) hst.dig)
 have ev : val f.m (A1 j) f.n = val f.m (A2 N1) f.n := val_congr e
 have e2 := (h1.same h2 j hj).2
 have := h2.inc j N1 hj (by omega)
 omega
end Fair
end Go.Proofs.YtlldeifbfpmbaaaGreat
set_option maxRecDepth 100000
namespace Go.Proofs.YtlldeifbfpmbaaaGreat
open Go.RowKit Go.Proofs Go.MapKept
theorem perm_rowY {α : Type} {c l d x y e : α} {M T : List α} : (c :: l :: d :: x :: y :: (e :: M ++ T)).Perm (c :: e :: (M ++ (l :: d :: x :: y :: T))) := by
 classical
 rw [List.perm_iff_count]
 intro z
 simp only [List.count_append, List.count_cons, List.count_nil, List.cons_append, List.nil_append]
 omega
theorem perm_rowZ {α : Type} {l d x y : α} {M T : List α} : (M ++ (l :: d :: x :: y :: T)).Perm ((l :: d :: x :: y :: M) ++ T) := by
 classical
 rw [List.perm_iff_count]
 intro z
 simp only [List.count_append, List.count_cons, List.count_nil, List.cons_append, List.nil_append]
 omega
def recK (r : Loop) (most N : Nat) : Loop := { r with state := if N = most then .done else .ready, pending := if N = most then some (.exit 0) else none }
def KAll (b7 b3 D l : Nat) (r : Loop) (n most : Nat) : Kp := fun N A KL => ∃ (va : Option Addr) (vc : Nat) (HT : List (Option Blk)), OTab (.slice va N vc) 23 3 N (fun _ => n) (fun i k => iv (A i.toNat k)) HT ∧ KL = some (och l (.loop (recK r most N))) :: some (och D (.deferred (some []))) :: some (lch b7 22 [.slice va N vc]) :: some (lch b3 3 [iv most]) :: HT
theorem recK_0 {r : Loop} {most : Nat} (h : 1 ≤ most) (hs : r.state = .ready) (hp : r.pending = none) : recK r most 0 = r := by
 unfold recK
 rw [if_neg (by omega), if_neg (by omega), ← hs, ← hp]
theorem RdR.sub {T T' : List (Option Blk)} {v : Value} {n : Nat} {E : Int → Int} (h : RdR T v n E) (hs : T.Sublist T') : RdR T' v n E := by
 obtain ⟨ao, c, h1, h2, h3⟩ := h
 exact ⟨ao, c, h1, h2, fun B w0 w hO => h3 B w0 w (hO.sub hs)⟩
theorem recK_state {r : Loop} {most N : Nat} : (recK r most N).state ≠ .busy := by
 unfold recK
 dsimp only
 split <;> decide
theorem recK_pend {r : Loop} {most N : Nat} : (recK r most N).pending = none ∨ (recK r most N).pending = some (.exit 0) := by
 unfold recK
 dsimp only
 split
 ·exact .inr rfl
 ·exact .inl rfl
theorem run_rangeAll {f N : Nat} {k : List Item} {F : Fr} {w w0 : World} {R : Ending → World → Prop} {id gf B b7 b3 n most : Nat} {g : Operand} {ps : Array Tmp} {assign body : Code} {cap : Array Value} (hcl : Callable Tryz.prog gf) (hg : Fr.ev F g = some (.func (.func gf) #[] cap))
  (hy : ∀ fn a, Holds N F a → YieldOk (w.heap.size + 1) B w0 n most (KAll b7 b3 w.heap.size (w.heap.size + 1) (lrec fn a.tmps ps assign body w.heap.size) n most))
  (h : ∀ fn a, Holds N F a → YieldOk (w.heap.size + 1) B w0 n most (KAll b7 b3 w.heap.size (w.heap.size + 1) (lrec fn a.tmps ps assign body w.heap.size) n most) → Calls Tryz.prog gf (#[.func (.yield (w.heap.size + 1)) #[] #[]] ++ cap) ((w.alloc (.deferred (some []))).alloc (.loop (lrec fn a.tmps ps assign body w.heap.size))) fun e w3 =>
   ∃ (v : Value) (r : Loop), e = .returned v ∧ w3.heap[w.heap.size + 1]? = some (.loop r) ∧ r.state ≠ .busy ∧ (r.pending = none ∨ r.pending = some (.exit id)) ∧
    RM Tryz.prog f N [{ target := .collected w.heap.size, args := #[] }] k F (w3.putObj (w.heap.size + 1) (.loop { r with state := .exhausted })) R) :
  Run Tryz.prog f N (.code (.block id (.rangeFunc g ps assign body)) :: k) F w R := run_rangeFunc hcl hg fun fn a ha => h fn a ha (hy fn a ha)
theorem perm_all {α : Type} {a b l d x y z n o : α} {T H : List α} : (n :: l :: d :: ((a :: b :: o :: T) ++ (H ++ [x, y, z]))).Perm (a :: b :: ([l, d, x, y, n] ++ (o :: (T ++ (H ++ [z]))))) := by
 classical
 rw [List.perm_iff_count]
 intro c
 simp only [List.count_append, List.count_cons, List.count_nil, List.cons_append, List.nil_append]
 omega
set_option maxHeartbeats 4000000 in
theorem allX_any (ga ba qa : Option Addr) (gc bc qc : Nat) (f : Fair) (most : Nat) (w : World) (hV : Valid5 f f.m) (hm12 : f.m ≤ 12) (hF : FAg w.heap.size w ga ba qa f f.m) (hR : RTab w.heap.size w ba f.m f.bl f.be) (h1 : 1 ≤ most) (h2 : most ≤ 1000) :
  Calls Tryz.prog 10 #[.agg #[.slice ga f.n gc, .slice ba f.m bc, .slice qa f.m qc], iv most] w fun e w' => ∃ (va : Option Addr) (vc N : Nat) (A : Nat → Int → Int) (H : List (Option Blk)), e = .returned (.tuple #[.slice va N vc, iv 0]) ∧ OTab (.slice va N vc) 23 3 N (fun _ => f.n) (fun r k => iv (A r.toNat k)) H ∧ Own w.heap.size w w' H ∧
   (N < most ∧ f.AllTo N A ((0 + 1) * (f.m + 1) ^ f.n) ∨ N = most ∧ ∃ V, f.AllTo N A V) := by
 have hlg := hV.lg
 refine calls_of_run (F := [(0, _), (1, _)]) Tryz.func10 rfl Tryz.ntmps10 rfl rfl ?_
 have hO0 := Own.init w
 refine run_seq <| run_region <| rl_ow rfl (ow_box _ rfl rfl rfl rfl rfl hO0) ?_
 rintro _ w1 ⟨b2, rfl, hO2, hs3⟩
 refine rl_ow rfl (ow_box _ rfl rfl rfl rfl rfl hO2) ?_
 rintro _ w4 ⟨b3, rfl, hO5, hs6⟩
 refine rl_v rfl rfl rfl (ov_assign rfl rfl) <| rl_v rfl rfl rfl (ov_assign rfl rfl) <| rl_nil <| run_seq <| run_seq <| run_region <| rl_v rfl rfl rfl (ov_loadW rfl Tryz.underlying27 rfl (by kernel_rfl) rfl hO5 1 rfl) ?_
 refine rl_call callable_23 rfl rfl rfl rfl rfl rfl (check5_any ga ba qa gc bc qc f.m f _ hlg.n hlg.m hlg.q hlg.gl hlg.bl (hO5.fag hF)) (fun e7 w8 hp9 => ?_)
 obtain ⟨rfl, hbl⟩ := hp9
 refine ⟨_, rfl, ?_⟩
 have hO10 := hO5.past hbl
 have h0 := chkF_0.2 hV
 refine rl_v rfl rfl rfl (ov_assign rfl rfl) <| rl_nil <| run_seq <| run_region <| rl_v rfl rfl rfl (ov_move rfl rfl) <| rl_v rfl rfl rfl (ov_neq rfl rfl rfl) <| rl_nil ?_
 first | refine run_cond_dec rfl (fun c1 => ?_) (fun c1 => ?_) | refine run_cond rfl (fun c1 => ?_) (fun c1 => ?_)
 ·exfalso; exact c1 h0
 ·refine run_skip <| run_seq <| run_seq <| run_region <| rl_v rfl rfl rfl (ov_load rfl Tryz.underlying3 rfl rfl (by exact hO10.cellL 0 rfl (off := 0) rfl)) ?_
  refine rl_v rfl rfl rfl (ov_lss rfl rfl rfl) <| rl_v rfl rfl rfl (ov_move rfl rfl) ?_
  first | refine rl_noD 16 rfl ((show ¬ (most : Int) < 1 by omega)) ?_ | refine rl_no 16 rfl ((show ¬ (most : Int) < 1 by omega)) ?_
  refine rl_gv rfl rfl rfl rfl rfl (ov_load rfl Tryz.underlying3 rfl rfl (by exact hO10.cellL 0 rfl (off := 0) rfl)) ?_
  refine rl_gv rfl rfl rfl rfl rfl (ov_gtr rfl rfl rfl) <| rl_v rfl rfl rfl (ov_pick_f rfl rfl rfl) <| rl_nil ?_
  first | refine run_cond_dec rfl (fun c2 => ?_) (fun c2 => ?_) | refine run_cond rfl (fun c2 => ?_) (fun c2 => ?_)
  ·exfalso; omega
  ·refine run_skip <| run_seq <| run_region <| rl_ow rfl (ow_alloc _ rfl rfl rfl zero_22 rfl hO10) ?_
   rintro _ w11 ⟨b7, rfl, hO12, hs13⟩
   refine rl_nil <| run_seq <| run_seq <| run_region <| rl_v rfl rfl rfl (ov_loadW rfl Tryz.underlying27 rfl (by kernel_rfl) rfl hO12 2 rfl) ?_
   refine rl_call callable_40 rfl rfl rfl rfl rfl rfl (newTablesX_any ga ba qa gc bc qc f _ hV.sm ((hO12.fag hF).fat rfl)) (fun e14 w15 hp16 => ?_)
   obtain ⟨tb, H1, rfl, hO1, hP⟩ := hp16
   refine ⟨_, rfl, ?_⟩
   have hO17 := hO12.join hO1
   refine rl_call callable_41 rfl rfl rfl rfl rfl rfl (all5_any tb f _ hV hm12 (hP _ _ _ (hO17.sub (List.sublist_append_left _ _)) ((hO17.fag hF).fat rfl)).pt) (fun e18 w19 hp20 => ?_)
   obtain ⟨bo, bt, ob, rf, No, X, T, l1, l2, nb, rfl, hO2, hB, hA, hD, hRX⟩ := hp20
   refine ⟨_, rfl, ?_⟩
   have hO21 := hO17.join hO2
   refine rl_nil ?_
   have hOb := hO21
   have hRb := hO21.rtab hR
   have hFb := (hO21.fag hF).fat rfl
   refine run_rangeAll (B := w.heap.size) (w0 := w) (b7 := b7) (b3 := b3) (n := f.n) (most := most) callable_74 rfl (fun fn a ha => ?_) (fun fn a ha hY => ?_)
   ·intro N A KL T wy x s c hK hN hx hOy
    obtain ⟨va, vc, HT, hTb, rfl⟩ := hK
    obtain ⟨xa, xc, rfl⟩ := Row.val hx
    obtain ⟨co, rv, ch, rfl, hv, h3t⟩ := hTb
    refine yieldAt_round (hOy.atO 1 rfl) rfl ha.size (fun i u hu => ha.at_ i u hu) rfl (ci_region (li_v rfl (fun _ h => by cases h) rfl rfl (ov_assign rfl rfl) (li_nil (round_body (beginK hOy 1 rfl (if_neg (by omega)) fun w2 hO2 => ?_)))))
    refine ci_block (ci_seq (ci_region (li_v rfl (fun _ h => by cases h) rfl rfl (ov_load rfl Tryz.underlying22 rfl rfl (hO2.cellL 3 rfl (off := 0) rfl)) (li_v rfl (fun _ h => by cases h) rfl rfl (ov_move rfl rfl) (li_ow rfl (fun _ h => by cases h) (ow_one rfl rfl rfl Tryz.underlying22 info_23 rfl hO2 rfl rfl) ?_)))))
    rintro _ w3 ⟨bx, rfl, hO3, _⟩
    refine li_ow rfl (fun _ h => by cases h) (ow_app1 rfl rfl rfl Tryz.underlying22 info_23 rfl hO3 5 hv rfl rfl rfl rfl ⟨by omega, by omega⟩) ?_
    rintro _ w4 ⟨v7, c7, rfl, hO4, hv7, _⟩
    obtain ⟨a7, cp7, rfl⟩ := Row.val hv7
    refine li_ow rfl (fun _ h => by cases h) (ow_storeL rfl rfl (by kernel_rfl) hO4 3 rfl rfl rfl rfl rfl) ?_
    rintro _ w5 ⟨rfl, hO5, _⟩
    have hfin : ∀ (r0 r : Loop) (w6 : World), r = recK r0 most (N + 1) → Own w.heap.size w w6 (c :: some (och (w19.heap.size + 1) (.loop r)) :: some (och w19.heap.size (.deferred (some []))) :: some (lch b7 22 [.slice a7 (N + 1) cp7]) :: some (lch b3 3 [iv most]) :: (c7 :: (List.range N).map ch ++ T)) →
      ∃ (A' : Nat → Int → Int) (KL' : List (Option Blk)), KAll b7 b3 w19.heap.size (w19.heap.size + 1) r0 f.n most (N + 1) A' KL' ∧ (∀ j : Nat, j < N → A' j = A j) ∧ A' N = s ∧ Own w.heap.size w w6 (KL' ++ T) := fun r0 r w6 hr hO6 => by
     obtain ⟨H', hT', hO7⟩ := OTab.snoc (L := fun _ => f.n) (F := fun i k => iv ((fun j => if j = N then s else A j) i.toNat k)) (rv := rv) (ch := ch) (fun i hi => by
      have e2 : (if ((i : Int).toNat) = N then s else A ((i : Int).toNat)) = A i := if_neg (by omega)
      simp only [e2]
      exact h3t i hi) hx hv7 (hO6.perm perm_rowY) rfl (fun j j0 j1 => by
      have e2 : (if (((N : Int)).toNat) = N then s else A (((N : Int)).toNat)) = s := if_pos (by omega)
      simp only [e2])
     exact ⟨fun j => if j = N then s else A j, _, ⟨a7, cp7, H', hT', by rw [hr]⟩, fun j hj => if_neg (by omega), if_pos rfl, hO7.perm perm_rowZ⟩
    refine li_seq (ci_seq (ci_region (li_v rfl (fun _ h => by cases h) rfl rfl (ov_load rfl Tryz.underlying22 rfl rfl (hO5.cellL 3 rfl (off := 0) rfl)) (li_v rfl (fun _ h => by cases h) rfl rfl (ov_len rfl Tryz.underlying22 rfl) (li_v rfl (fun _ h => by cases h) rfl rfl (ov_load rfl Tryz.underlying3 rfl rfl (hO5.cellL 4 rfl (off := 0) rfl)) (li_v rfl (fun _ h => by cases h) rfl rfl (ov_eql rfl rfl rfl) (li_seq ?_)))))))
    refine ci_cond rfl (fun ht => ci_exit fun a4 ha4 => inBlock_other (P := Tryz.prog) (by decide) ?_) (fun hf => ci_skip fun a4 ha4 => inBlock_normal ?_)
    ·refine endKx hO5 1 rfl fun w6 hO6 => ?_
     have hNm : N + 1 = most := by have := of_decide_eq_true ht; omega
     obtain ⟨A', KL', h3, h4, h5, h6⟩ := hfin _ _ w6 (by unfold recK; rw [if_pos hNm, if_pos hNm]) hO6
     exact ⟨_, rfl, A', KL', by rw [decide_eq_false (by omega)], h3, h4, h5, h6⟩
    ·refine endK hO5 1 rfl fun w6 hO6 => ?_
     have hNm : ¬ N + 1 = most := by have := of_decide_eq_false hf; omega
     obtain ⟨A', KL', h3, h4, h5, h6⟩ := hfin _ _ w6 (by unfold recK; rw [if_neg hNm, if_neg hNm]) hO6
     exact ⟨_, rfl, A', KL', by rw [decide_eq_true (by omega)], h3, h4, h5, h6⟩
   ·have hW : AllW w.heap.size w f ob tb ga ba qa gc bc qc l1 l2 rf No X (some (vch ob 23 f.n rf) :: (T ++ (H1 ++ [some (lch b2 27 [.slice ga f.n gc, .slice ba f.m bc, .slice qa f.m qc])]))) := by
     refine ⟨fun ww hOw => ⟨hP _ _ ww (hOw.sub (.cons _ ((List.sublist_append_left _ _).trans (List.sublist_append_right _ _)))) ((hOw.fag hF).fat rfl), hOw.rtab hR, hOw.readsI 0 rfl⟩, fun g g0 g1 => ⟨(hRX g g0 g1).1.sub (.cons _ (List.sublist_append_left _ _)), (hRX g g0 g1).2⟩, fun s hs g g0 g1 => opt_all hV.ok hB hA hs g0 g1⟩
    have e1 : (w19.alloc (.deferred (some []))).heap.size = w19.heap.size + 1 := by simp
    have hOl := fun r : Loop => ((hOb.allocO (.deferred (some []))).allocO (.loop r)).nil_cons
    rw [e1] at hOl
    refine (all1_any hW hV hY h1 (fun _ _ => 0) _ _ ⟨none, 0, [none], OTab.nil _ _ _ _, rfl⟩ (by rw [recK_0 h1 rfl rfl]; exact (hOl _).perm perm_all)).mono fun e w3 ⟨he, b, KL', hFd, hO3⟩ => ?_
    obtain ⟨N, A, ⟨va, vc, HT, hTb, rfl⟩, ht, hf⟩ := hFd
    refine ⟨_, _, he, hO3.atO 2 rfl, recK_state, recK_pend, ?_⟩
    have hO4 := fun r : Loop => hO3.putO 2 rfl (.loop r)
    refine rm_seq (rm_region (rml_v rfl rfl rfl (ov_load rfl Tryz.underlying22 rfl rfl ((hO4 _).cellL 4 rfl (off := 0) rfl)) (rml_v rfl rfl rfl (ov_assign rfl rfl) (rml_v rfl rfl rfl (ov_assign rfl rfl) (rml_nil (rm_ret Tryz.func10 ((hO4 _).atO 3 rfl) (res2 Tryz.results10 rfl rfl) ?_))))))
    have hO5 := fun r : Loop => ((hO4 r).putO 3 rfl (.deferred none)).sub (.cons _ (.cons _ (.cons _ (.cons _ (.cons _ (.cons _ (List.sublist_append_left HT _)))))))
    refine ⟨va, vc, N, A, HT, rfl, hTb, hO5 _, ?_⟩
    cases b
    ·obtain ⟨e2, V, _, hAV⟩ := hf rfl
     exact .inr ⟨e2, V, hAV⟩
    ·exact .inl (ht rfl)
end Go.Proofs.YtlldeifbfpmbaaaGreat
set_option maxRecDepth 100000
namespace Go.Proofs.YtlldeifbfpmbaaaGreat
open Go.RowKit Go.Proofs Go.MapKept
section
variable (ga ba qa : Option Addr) (n gc m bc nq qc : Nat) (GL BL : Int → Nat) (GE BE : Int → Int → Int) (q : Int → Int) (w : World)
  (hG : RTab w.heap.size w ga n GL GE) (hB : RTab w.heap.size w ba m BL BE) (hQ : IAt w.heap.size w qa nq (fun i => iv (q i)))
include hG hB hQ
end
end Go.Proofs.YtlldeifbfpmbaaaGreat
set_option maxRecDepth 100000
namespace Go.Proofs.YtlldeifbfpmbaaaGreat
open Go.RowKit Go.Proofs Go.MapKept
section
variable (ga la : Option Addr) (n gc ln lc : Nat) (L : Int → Nat) (E : Int → Int → Int) (w : World) (hL : ∀ r : Int, 0 ≤ r → r < n → L r ≤ 1000000) (hn : n ≤ 1000000) (h : RTab w.heap.size w ga n L E)
include hL hn h
end
end Go.Proofs.YtlldeifbfpmbaaaGreat
