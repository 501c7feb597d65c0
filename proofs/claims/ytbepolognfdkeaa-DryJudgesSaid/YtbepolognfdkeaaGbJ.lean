import Derived.Test.YtbepolognfdkeaaGbI
import Derived.Test.YtbepolognfdkeaaGaL
set_option maxRecDepth 100000
namespace Go.Proofs.Ytbepolognfdkeaa
open Go.RowKit Go.Proofs Go.MapKept
theorem WkAt.later {w w' : World} {wb : Nat} {G : Net} {L : Int → Int} {la : Option Addr} {n lc : Nat} {sa : Option Addr} {m sc : Nat} {pa : Option Addr} {pc : Nat} {oa : Option Addr} {oc : Nat} {fl : Int} (h : WkAt w.heap.size w wb G L la n lc sa m sc pa pc oa oc fl) (hb : Below w.heap.size w w') : WkAt w'.heap.size w' wb G L la n lc sa m sc pa pc oa oc fl :=
 ⟨h.lat.later hb, h.pip.later hb, h.out.later hb⟩
theorem ov_lookupV {P : Program} {N : Nat} {o : Oper} {F : Fr} {w : World} {T kt et : TypeId} {x ix : Operand} {z v : Value} {b : Nat} {i : Int} {L : List (Int × Value)} (ho : o.op = .lookup T x ix false) (hT : P.underlying T = some (.map kt et)) (hk : P.underlying kt = some (.int .i64)) (hz : (P.info? et).map (·.zero) = some (some z))
  (hx : Fr.ev F x = some (.map (some b))) (hi : Fr.ev F ix = some (.int .i64 i)) (hm : w.heap[b]? = some (.map (ents L 0).toArray L.length)) (hv : lkp L i = some v) : OpV P N o F w v := by
 have h := ov_lookup (P := P) (N := N) (o := o) (F := F) ho hT hk hz hx hi hm
 rw [hv] at h
 exact h
theorem x1_odd (j : Int) : x1 (2 * j + 1) = 2 * j := by unfold x1; rw [if_neg (by omega)]; omega
theorem nodup_leD {n : Nat} {l : List Int} (h : l.Nodup) (hr : ∀ x ∈ l, 0 ≤ x ∧ x < n) : l.length ≤ n := by
 refine pigeonG (e := fun i => l.getD i.toNat 0) (fun k k0 k1 => ?_) (fun a b a0 a1 b0 b1 e => ?_)
 ·refine hr _ ?_
  rw [List.getD_eq_getElem?_getD, List.getElem?_eq_getElem (by omega)]
  exact List.getElem_mem _
 ·rw [List.getD_eq_getElem?_getD, List.getD_eq_getElem?_getD, List.getElem?_eq_getElem (by omega), List.getElem?_eq_getElem (by omega)] at e
  have hp := List.pairwise_iff_getElem.1 h
  rcases Nat.lt_trichotomy a.toNat b.toNat with d | d | d
  ·have hq := hp a.toNat b.toNat (by omega) (by omega) d
   exact absurd (by simpa using e) hq
  ·omega
  ·have hq := hp b.toNat a.toNat (by omega) (by omega) d
   exact absurd (by simpa using e.symm) hq
structure HrsI (l : Lds) (G : Net) (L : Int → Int) (x : Int → Int) (t q : Int) (M : List (Int × Value)) : Prop where
 nd : (M.map (·.1)).Nodup
 key : ∀ i : Int, i ∈ M.map (·.1) → (0 ≤ i ∧ i < l.n) ∧ 0 < x i ∧ lkp M i = some (iv (x i))
 got : ∀ r : Int, 0 ≤ r → r < q → G.OE t r % 2 = 1 → 0 < L (G.OE t r) → G.TO (G.OE t r) - 1 ∈ M.map (·.1)
structure Hrs (l : Lds) (x : Int → Int) (M : List (Int × Value)) : Prop where
 nd : (M.map (·.1)).Nodup
 key : ∀ i : Int, i ∈ M.map (·.1) ↔ (0 ≤ i ∧ i < l.n) ∧ 0 < x i
 val : ∀ i : Int, i ∈ M.map (·.1) → lkp M i = some (iv (x i))
 le : M.length ≤ l.n
section
variable {l : Lds} {c : Nat} {X : Int → Int} {kilns : Int} {G : Net} {L : Int → Int} {k : Int} {q : Int} {M : List (Int × Value)}
theorem HrsI.skip {x : Int → Int} {t : Int} (h : HrsI l G L x t q M) (hn : ¬ (G.OE t q % 2 = 1 ∧ 0 < L (G.OE t q))) : HrsI l G L x t (q + 1) M :=
 ⟨h.nd, h.key, fun r r0 r1 e1 e2 => by
  by_cases c : r = q
  ·rw [c] at e1 e2; exact absurd ⟨e1, e2⟩ hn
  ·exact h.got r r0 (by omega) e1 e2⟩
theorem HrsI.put {t : Int} (hb : Built l c X kilns G) (ht : t = 1 + (l.n : Int) + k) (k0 : 0 ≤ k) (k1 : k < ((c - 1 : Nat) : Int)) (q0 : 0 ≤ q) (q1 : q < G.OL t) (h : HrsI l G L (fun i => xf G L (1 + i) t) t q M) (ho : G.OE t q % 2 = 1) (hL : 0 < L (G.OE t q)) :
  HrsI l G L (fun i => xf G L (1 + i) t) t (q + 1) (mput M (G.TO (G.OE t q) - 1) (iv (L (G.OE t q)))) := by
 have hnn := hb.is_.nn
 obtain ⟨ho1, ho2⟩ := hb.ok.out t q (by omega) (by omega) q0 q1
 obtain ⟨e, he⟩ : ∃ e, e = G.OE t q := ⟨_, rfl⟩
 rw [← he] at ho hL ho1 ho2 ⊢
 obtain ⟨j, rfl⟩ : ∃ j : Int, e = 2 * j + 1 := ⟨e / 2, by omega⟩
 rw [x1_odd] at ho2
 have hx : xf G L (G.TO (2 * j + 1)) (G.TO (2 * j)) = L (2 * j + 1) := hb.xf_at (by omega) (by omega)
 obtain ⟨i, hi, ei⟩ : ∃ i : Int, (0 ≤ i ∧ i < l.n) ∧ G.TO (2 * j + 1) = 1 + i := by
  rcases hb.kind (j := j) (by omega) (by omega) with ⟨i', hi', e⟩ | ⟨i', k', hi', hk', h2, e⟩ | ⟨k', hk', e⟩
  ·simp only [Prod.mk.injEq] at e; omega
  ·simp only [Prod.mk.injEq] at e; exact ⟨i', hi', e.1⟩
  ·simp only [Prod.mk.injEq] at e; omega
 rw [ei, ho2] at hx
 rw [ei, show 1 + i - 1 = i by omega]
 have hsub : ∀ a, a ∈ M.map (·.1) → a ∈ (mput M i (iv (L (2 * j + 1)))).map (·.1) := fun a ha => (mput_mem _ _ _ _).2 (.inr ha)
 refine ⟨mput_nodup _ _ h.nd, fun a ha => ?_, fun r r0 r1 e1 e2 => ?_⟩
 ·rw [lkp_mput]
  by_cases ca : a = i
  ·rw [if_pos ca, ca]
   exact ⟨hi, by show 0 < xf G L (1 + i) t; rw [hx]; exact hL, by show _ = some (iv (xf G L (1 + i) t)); rw [hx]⟩
  ·rw [if_neg ca]
   exact h.key a (((mput_mem _ _ _ _).1 ha).resolve_left ca)
 ·by_cases cr : r = q
  ·rw [cr, ← he, ei, show 1 + i - 1 = i by omega]
   exact (mput_mem _ _ _ _).2 (.inl rfl)
  ·exact hsub _ (h.got r r0 (by omega) e1 e2)
theorem HrsI.done {t : Int} (hb : Built l c X kilns G) (h : HrsI l G L (fun i => xf G L (1 + i) t) t (G.OL t) M) : Hrs l (fun i => xf G L (1 + i) t) M := by
 refine ⟨h.nd, fun i => ⟨fun hi => ⟨(h.key i hi).1, (h.key i hi).2.1⟩, fun ⟨hi, hx⟩ => ?_⟩, fun i hi => (h.key i hi).2.2, ?_⟩
 ·refine Classical.byContradiction fun hn => ?_
  have h0 : xf G L (1 + i) (t) = 0 := sm_zeroG fun j j0 j1 => by
   by_cases a : G.TO (2 * j + 1) = 1 + i
   ·by_cases b : G.TO (2 * j) = t
    ·by_cases d : 0 < L (2 * j + 1)
     ·refine absurd ?_ hn
      obtain ⟨r, hr, er⟩ := hb.ok.all (2 * j + 1) (by omega) (by omega)
      rw [x1_odd, b] at hr er
      have := h.got r hr.1 hr.2 (by omega) (by rw [er]; exact d)
      rw [er, a, show 1 + i - 1 = i by omega] at this
      exact this
     ·have e := hb.xf_at (L := L) j0 j1
      rw [a, b] at e
      have hx' : 0 < xf G L (1 + i) t := hx
      omega
    ·rw [ind_f b]; simp
   ·rw [ind_f a]; simp
  have hx' : 0 < xf G L (1 + i) t := hx
  omega
 ·have := nodup_leD h.nd fun i hi => (h.key i hi).1
  simpa using this
end
set_option maxHeartbeats 2000000 in
theorem hours_any {l : Lds} {c : Nat} {X : Int → Int} {kilns : Int} {G : Net} {L : Int → Int} {fl : Int} {wb : Nat} {la sa pa oa : Option Addr} {lc sc pc oc : Nat} (hb : Built l c X kilns G) (hs : G.Sm) (k : Int) (k0 : 0 ≤ k) (k1 : k < ((c - 1 : Nat) : Int)) (hn : l.n ≤ 256) (w : World) (hW : WkAt w.heap.size w wb G L la l.n lc sa (c - 1) sc pa pc oa oc fl) :
  Calls Try.prog 72 #[ptr wb, iv k] w fun e w' => ∃ (bm : Nat) (M : List (Int × Value)), e = .returned (.map (some bm)) ∧ Hrs l (fun i => xf G L (1 + i) (1 + (l.n : Int) + k)) M ∧ Own w.heap.size w w' [some (mch bm M)] := by
 have hll := hW.lat.open
 obtain ⟨pb, po, hpa, hpr⟩ := hW.pip.open (by decide)
 obtain ⟨A, C, RB, RO, gb, go, hga, hrow, hra, hel, hcan⟩ := hW.out.open
 have hnn := hb.is_.nn
 have hcle := hb.cuts.le
 have hnp := hs.np
 refine calls_of_run (F := [(0, _), (1, _)]) Try.func72 rfl Try.ntmps72 rfl rfl ?_
 have hO0 := Own.init w
 refine run_seq <| run_region <| rl_v rfl rfl rfl (ov_assign rfl rfl) <| rl_nil <| run_seq <| run_region <| rl_ow rfl (ow_makemap rfl rfl rfl hO0) ?_
 rintro _ w1 ⟨bm, rfl, hO2, hs3⟩
 have holv := hs.ol (1 + (l.n : Int) + k) (by omega) (by omega)
 refine rl_v rfl rfl rfl (ov_assign rfl rfl) <| rl_nil <| run_seq <| run_region <| rl_v rfl rfl rfl (ov_move rfl rfl) <| rl_v rfl rfl rfl (ov_nil rfl rfl) <| rl_v rfl rfl rfl (ov_fieldS rfl Try.underlying103 rfl (fo := 0) rfl (by kernel_rfl) rfl) ?_
 refine rl_v rfl rfl rfl (ov_load rfl Try.underlying27 rfl rfl (by exact hll _ hO2.below rfl)) ?_
 refine rl_v rfl rfl rfl (ov_len rfl Try.underlying27 rfl) <| rl_v rfl rfl rfl (ov_add rfl rfl rfl (by omega)) ?_
 refine rl_v rfl rfl rfl (ov_move rfl rfl) <| rl_v rfl rfl rfl (ov_add rfl rfl rfl (by omega)) ?_
 refine rl_v rfl rfl rfl (ov_assign rfl rfl) <| rl_nil <| run_seq <| run_seq <| run_region <| rl_v rfl rfl rfl (ov_move rfl rfl) <| rl_v rfl rfl rfl (ov_nil rfl rfl) <| rl_v rfl rfl rfl (ov_fieldS rfl Try.underlying103 rfl (fo := 3) rfl (by kernel_rfl) rfl) ?_
 refine rl_v rfl rfl rfl (ov_load rfl Try.underlying101 rfl rfl (by exact hll _ hO2.below rfl)) ?_
 refine rl_v rfl rfl rfl (ov_move rfl rfl) <| rl_v rfl rfl rfl (ov_index1 rfl Try.underlying101 (by kernel_rfl) rfl rfl ⟨by omega, by omega⟩ (by exact hga (by omega))) ?_
 refine rl_v rfl rfl rfl (ov_load rfl Try.underlying47 rfl rfl (by exact hrow _ hO2.below (1 + (l.n : Int) + k) (by omega) (by omega))) ?_
 refine rl_v rfl rfl rfl (ov_len rfl Try.underlying47 rfl) <| rl_v rfl rfl rfl (ov_move rfl rfl) <| rl_nil <| run_block <| Run.keep [0, 5, 25, 26, 27] (F' := [(0, _), (5, _), (25, _), (26, _), (27, _)]) rfl <| run_loop1 (fun (q : Nat) => [(27, .int .i64 (q : Int))]) [0, 5, 25, 26] (fun (q : Nat) (w4 : World) => q ≤ G.OL (1 + (l.n : Int) + k) ∧ ∃ M : List (Int × Value), HrsI l G L (fun i => xf G L (1 + i) (1 + (l.n : Int) + k)) (1 + (l.n : Int) + k) q M ∧ Own w.heap.size w w4 [some (mch bm M)]) (fun (q : Nat) => G.OL (1 + (l.n : Int) + k) - q) (0) ?_ (And.intro (by exact slot_int rfl (by first | omega)) (And.intro rfl (And.intro rfl (And.intro rfl (And.intro rfl trivial))))) ?_
 ·exact ⟨Nat.zero_le _, [], ⟨List.nodup_nil, fun i hi => (nomatch hi), fun r r0 r1 => by omega⟩, hO2⟩
 intro q w4 hIw4 ih5
 obtain ⟨hq, M, hM, hO1⟩ := hIw4
 show Run _ _ _ _ [(27, _), (0, _), (5, _), (25, _), (26, _)] _ _
 refine run_seq <| run_region <| rl_v rfl rfl rfl (ov_lss rfl rfl rfl) <| rl_nil <| run_seq ?_
 first | refine run_cond_dec rfl (fun c1 => ?_) (fun c1 => ?_) | refine run_cond rfl (fun c1 => ?_) (fun c1 => ?_)
 ·have hout := hb.ok.out (1 + (l.n : Int) + k) q (by omega) (by omega) (by omega) c1
  have hto := hb.ok.to (G.OE (1 + (l.n : Int) + k) q) hout.1.1 hout.1.2
  refine run_skip <| run_seq <| run_block <| run_seq <| run_region <| rl_v rfl rfl rfl (ov_index1 rfl Try.underlying47 (by kernel_rfl) rfl rfl ⟨by omega, by omega⟩ (by exact hra (1 + (l.n : Int) + k) (by omega) (by omega) (by omega))) ?_
  refine rl_v rfl rfl rfl (ov_load rfl Try.underlying3 rfl rfl (by exact hel _ hO1.below (1 + (l.n : Int) + k) (by omega) (by omega) q (by omega) c1)) ?_
  refine rl_v rfl rfl rfl (ov_assign rfl rfl) <| rl_nil <| run_seq <| run_region <| rl_v rfl rfl rfl (ov_move rfl rfl) <| rl_v rfl rfl rfl (ov_rem rfl rfl rfl (by omega) (by omega)) ?_
  refine rl_v rfl rfl rfl (ov_eql rfl rfl rfl) <| rl_nil ?_
  first | refine run_cond_dec rfl (fun c2 => ?_) (fun c2 => ?_) | refine run_cond rfl (fun c2 => ?_) (fun c2 => ?_)
  ·refine run_seq <| run_region <| rl_v rfl rfl rfl (ov_move rfl rfl) <| rl_v rfl rfl rfl (ov_nil rfl rfl) <| rl_v rfl rfl rfl (ov_fieldS rfl Try.underlying103 rfl (fo := 2) rfl (by kernel_rfl) rfl) ?_
   refine rl_v rfl rfl rfl (ov_load rfl Try.underlying100 rfl rfl (by exact hll _ hO1.below rfl)) ?_
   refine rl_v rfl rfl rfl (ov_move rfl rfl) <| rl_v rfl rfl rfl (ov_index rfl Try.underlying100 (by kernel_rfl) (s := 2) rfl rfl ⟨by omega, by omega⟩ (by exact hpa (by omega))) ?_
   refine rl_v rfl rfl rfl (ov_fieldS rfl Try.underlying127 rfl (fo := 1) rfl (by kernel_rfl) rfl) ?_
   refine rl_v rfl rfl rfl (ov_load rfl Try.underlying3 rfl rfl (by exact hpr _ hO1.below (G.OE (1 + (l.n : Int) + k) q) (by omega) (by omega) 1 (by decide))) ?_
   refine rl_v rfl rfl rfl (ov_assign rfl rfl) <| rl_nil <| run_seq <| run_region <| rl_v rfl rfl rfl (ov_move rfl rfl) <| rl_v rfl rfl rfl (ov_gtr rfl rfl rfl) <| rl_nil ?_
   first | refine run_cond_dec rfl (fun c3 => ?_) (fun c3 => ?_) | refine run_cond rfl (fun c3 => ?_) (fun c3 => ?_)
   ·refine run_region <| rl_v rfl rfl rfl (ov_move rfl rfl) <| rl_v rfl rfl rfl (ov_move rfl rfl) <| rl_v rfl rfl rfl (ov_nil rfl rfl) <| rl_v rfl rfl rfl (ov_fieldS rfl Try.underlying103 rfl (fo := 2) rfl (by kernel_rfl) rfl) ?_
    refine rl_v rfl rfl rfl (ov_load rfl Try.underlying100 rfl rfl (by exact hll _ hO1.below rfl)) ?_
    refine rl_v rfl rfl rfl (ov_move rfl rfl) <| rl_v rfl rfl rfl (ov_index rfl Try.underlying100 (by kernel_rfl) (s := 2) rfl rfl ⟨by omega, by omega⟩ (by exact hpa (by omega))) ?_
    refine rl_v rfl rfl rfl (ov_fieldS rfl Try.underlying127 rfl (fo := 0) rfl (by kernel_rfl) rfl) ?_
    refine rl_v rfl rfl rfl (ov_load rfl Try.underlying3 rfl rfl (by exact hpr _ hO1.below (G.OE (1 + (l.n : Int) + k) q) (by omega) (by omega) 0 (by decide))) ?_
    refine rl_v rfl rfl rfl (ov_sub rfl rfl rfl (by omega)) ?_
    refine rl_v rfl rfl rfl (ov_move rfl rfl) <| rl_ow rfl (ow_mapput rfl rfl Try.underlying92 Try.underlying3 hO1 0 rfl rfl rfl rfl) ?_
    rintro _ w6 ⟨rfl, hO7, hs8⟩
    refine rl_nil <| run_inBlock <| run_region <| rl_v rfl rfl rfl (ov_add rfl rfl rfl (by omega)) ?_
    refine rl_v rfl rfl rfl (ov_move rfl rfl) <| rl_nil ?_
    refine Run.use (ih5 (q + 1) _ ?_ ?_) (And.intro (by exact slot_int rfl (by first | omega)) (And.intro rfl (And.intro rfl (And.intro rfl (And.intro rfl trivial)))))
    ·first | omega | (dsimp only; omega)
    ·exact ⟨by omega, _, HrsI.put hb rfl k0 k1 (by omega) c1 hM (by omega) c3, hO7⟩
   ·refine run_skip <| run_inBlock <| run_region <| rl_v rfl rfl rfl (ov_add rfl rfl rfl (by omega)) ?_
    refine rl_v rfl rfl rfl (ov_move rfl rfl) <| rl_nil ?_
    refine Run.use (ih5 (q + 1) _ ?_ ?_) (And.intro (by exact slot_int rfl (by first | omega)) (And.intro rfl (And.intro rfl (And.intro rfl (And.intro rfl trivial)))))
    ·first | omega | (dsimp only; omega)
    ·exact ⟨by omega, M, hM.skip fun h => c3 h.2, hO1⟩
  ·refine run_skip <| run_inBlock <| run_region <| rl_v rfl rfl rfl (ov_add rfl rfl rfl (by omega)) ?_
   refine rl_v rfl rfl rfl (ov_move rfl rfl) <| rl_nil ?_
   refine Run.use (ih5 (q + 1) _ ?_ ?_) (And.intro (by exact slot_int rfl (by first | omega)) (And.intro rfl (And.intro rfl (And.intro rfl (And.intro rfl trivial)))))
   ·first | omega | (dsimp only; omega)
   ·exact ⟨by omega, M, hM.skip fun h => c2 (by omega), hO1⟩
 ·have hqe : q = G.OL (1 + (l.n : Int) + k) := by omega
  rw [hqe] at hM
  refine run_exit rfl <| run_seq <| run_region <| rl_v rfl rfl rfl (ov_move rfl rfl) <| rl_v rfl rfl rfl (ov_assign rfl rfl) <| rl_nil <| run_ret Try.func72 (res1 Try.results72 rfl) ?_
  exact ⟨bm, M, rfl, hM.done hb, hO1⟩
end Go.Proofs.Ytbepolognfdkeaa
