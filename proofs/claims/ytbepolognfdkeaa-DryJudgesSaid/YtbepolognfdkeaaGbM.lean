import Derived.Test.YtbepolognfdkeaaGaM
set_option maxRecDepth 100000
namespace Go.Proofs.Ytbepolognfdkeaa
def qT (T : List Trn) (j : Int) : Trn := T.getD j.toNat (0, 0, 0)
def OkT (l : Lds) (t : Trn) : Prop := (0 ≤ t.1 ∧ t.1 < l.n) ∧ t.2.1 < t.2.2 ∧ l.r t.1 ≤ t.2.1 ∧ t.2.2 ≤ l.d t.1
theorem qT_mem {T : List Trn} {j : Int} (j0 : 0 ≤ j) (j1 : j < T.length) : qT T j ∈ T := by
 unfold qT
 rw [List.getD_eq_getElem?_getD, List.getElem?_eq_getElem (by omega)]
 exact List.getElem_mem _
theorem qT_nat {T : List Trn} {j : Nat} (h : j < T.length) : qT T j = T[j] := by
 unfold qT
 rw [Int.toNat_natCast, List.getD_eq_getElem?_getD, List.getElem?_eq_getElem h]; rfl
theorem qT_ex {T : List Trn} {t : Trn} (h : t ∈ T) : ∃ j : Int, (0 ≤ j ∧ j < T.length) ∧ qT T j = t := by
 obtain ⟨q, hq, e⟩ := List.mem_iff_getElem.1 h
 exact ⟨q, by omega, by rw [qT_nat hq, e]⟩
theorem sL_sm0 (φ : Trn → Int) (T : List Trn) : sL φ T = sm (fun j => φ (qT T j)) T.length := by
 have h := sL_take φ T (fun j => φ (qT T j)) (fun j hj => by rw [qT_nat hj]) T.length (Nat.le_refl _)
 rw [List.take_length] at h
 exact h.symm
structure PlanA (l : Lds) (kilns : Int) (T : List Trn) (i : Int) : Prop where
 ok : OkT l (qT T i)
 kil : sm (fun k => ind ((qT T k).2.1 ≤ (qT T i).2.1 ∧ (qT T i).2.1 < (qT T k).2.2)) T.length ≤ kilns
 one : ∀ k : Int, 0 ≤ k → k < T.length → k ≠ i → (qT T k).2.1 ≤ (qT T i).2.1 ∧ (qT T i).2.1 < (qT T k).2.2 → (qT T k).1 ≠ (qT T i).1
noncomputable def sT (T : List Trn) (n : Int) (j : Int) : Int := sm (fun i => ind ((qT T i).1 = j) * ((qT T i).2.2 - (qT T i).2.1)) n
theorem sT_step (T : List Trn) (n : Nat) (j : Int) : sT T ((n + 1 : Nat) : Int) j = upd (sT T n) (qT T n).1 (sT T n (qT T n).1 + (qT T n).2.2 - (qT T n).2.1) j := by
 have e : ∀ j, sT T ((n + 1 : Nat) : Int) j = sT T n j + ind ((qT T n).1 = j) * ((qT T n).2.2 - (qT T n).2.1) := fun j => by
  unfold sT
  rw [show ((n + 1 : Nat) : Int) = (n : Int) + 1 by omega, sm_succ _ (by omega)]
 rw [e]
 by_cases c : j = (qT T n).1
 ·rw [c, upd_same, ind_t rfl]; omega
 ·rw [upd_ne _ _ c, ind_f fun h => c h.symm]; omega
structure PlanX (l : Lds) (kilns : Int) (T : List Trn) : Prop where
 a : ∀ i : Int, 0 ≤ i → i < T.length → PlanA l kilns T i
 b : ∀ j : Int, 0 ≤ j → j < l.n → sT T T.length j = l.len j
theorem planX_iff {l : Lds} {kilns : Int} {T : List Trn} : PlanX l kilns T ↔ PlanOk l kilns T := by
 constructor
 ·intro h
  refine ⟨fun t ht => ?_, fun t ht => ?_, List.pairwise_iff_getElem.2 fun i j hi hj hij e => ?_, fun j j0 j1 => ?_⟩
  ·obtain ⟨i, hi, rfl⟩ := qT_ex ht
   exact (h.a i hi.1 hi.2).ok
  ·obtain ⟨i, hi, rfl⟩ := qT_ex ht
   rw [sL_sm0]
   exact (h.a i hi.1 hi.2).kil
  ·rw [← qT_nat hi, ← qT_nat hj] at e ⊢
   exact ⟨fun hc => (h.a i (by omega) (by omega)).one j (by omega) (by omega) (by omega) hc e.symm, fun hc => (h.a j (by omega) (by omega)).one i (by omega) (by omega) (by omega) hc e⟩
  ·rw [sL_sm0]
   exact h.b j j0 j1
 ·intro h
  refine ⟨fun i i0 i1 => ⟨h.ok _ (qT_mem i0 i1), ?_, fun k k0 k1 hne hc e => ?_⟩, fun j j0 j1 => ?_⟩
  ·have := h.kil _ (qT_mem i0 i1)
   rw [sL_sm0] at this
   exact this
  ·have hp := List.pairwise_iff_getElem.1 h.one
   obtain ⟨a, rfl⟩ := Int.eq_ofNat_of_zero_le i0
   obtain ⟨b, rfl⟩ := Int.eq_ofNat_of_zero_le k0
   rw [qT_nat (by omega), qT_nat (by omega)] at hc e
   rcases Nat.lt_trichotomy a b with d | d | d
   ·exact (hp a b (by omega) (by omega) d e.symm).1 hc
   ·omega
   ·exact (hp b a (by omega) (by omega) d e).2 hc
  ·have := h.sum j j0 j1
   rw [sL_sm0] at this
   exact this
noncomputable instance (l : Lds) (k : Int) (T : List Trn) : Decidable (PlanOk l k T) := Classical.propDecidable _
def OrdX (T : List Trn) : Prop := ∀ i : Int, 1 ≤ i → i < T.length → ¬ ((qT T i).2.1 < (qT T (i - 1)).2.1 ∨ (qT T (i - 1)).2.1 = (qT T i).2.1 ∧ (qT T i).1 < (qT T (i - 1)).1)
def Ord7 (T : List Trn) : Prop := T.Pairwise fun a b => a.2.1 < b.2.1 ∨ (a.2.1 = b.2.1 ∧ a.1 ≤ b.1)
noncomputable instance (T : List Trn) : Decidable (OrdX T) := Classical.propDecidable _
end Go.Proofs.Ytbepolognfdkeaa
set_option maxRecDepth 100000
namespace Go.Proofs.Ytbepolognfdkeaa
open Go.RowKit Go.Proofs Go.MapKept
noncomputable def Lds.planE (l : Lds) (k : Int) : Int := if l.chkK k = 0 then (if l.Can k then 0 else 70) else l.chkK k
theorem Lds.planE_ok {l : Lds} {k : Int} (h : l.chkK k = 0) (h2 : l.Can k) : l.planE k = 0 := by unfold planE; rw [if_pos h, if_pos h2]
theorem Lds.planE_late {l : Lds} {k : Int} (h : l.chkK k = 0) (h2 : ¬ l.Can k) : l.planE k = 70 := by unfold planE; rw [if_pos h, if_neg h2]
theorem Lds.planE_bad {l : Lds} {k : Int} (h : ¬ l.chkK k = 0) : l.planE k = l.chkK k := by unfold planE; rw [if_neg h]
theorem Lds.planE_zero {l : Lds} {k : Int} (h : l.planE k = 0) : l.chkK k = 0 ∧ l.Can k := by
 by_cases a : l.chkK k = 0
 ·refine ⟨a, Classical.byContradiction fun b => ?_⟩
  rw [Lds.planE_late a b] at h
  omega
 ·rw [Lds.planE_bad a] at h; exact absurd h a
structure PlO (l : Lds) (k : Int) (ta : Option Addr) (tc : Nat) (T : List Trn) (ct : Option Blk) : Prop where
 row : SRow (.slice ta T.length tc) 53 3 T.length (trF T) ct
 yes : l.planE k = 0 → PlanOk l k T ∧ Ord7 T ∧ T.length ≤ 500000
 no_ : l.planE k ≠ 0 → T = []
theorem PlO.nil {l : Lds} {k : Int} (h : l.planE k ≠ 0) : PlO l k none 0 [] none := ⟨SRow.nil _ _ _, fun e => absurd e h, fun _ => rfl⟩
theorem trF_join (T T2 : List Trn) : ∀ i : Int, 0 ≤ i → i < (T.length + T2.length : Nat) → joinF (trF T) T.length (trF T2) i = trF (T ++ T2) i := fun i i0 i1 => by
 unfold joinF trF
 by_cases c : i < T.length
 ·rw [if_pos c, List.getD_eq_getElem?_getD, List.getD_eq_getElem?_getD, List.getElem?_append_left (by omega)]
 ·rw [if_neg c, List.getD_eq_getElem?_getD, List.getD_eq_getElem?_getD, List.getElem?_append_right (by omega), show (i - (T.length : Int)).toNat = i.toNat - T.length by omega]
set_option maxHeartbeats 4000000 in
theorem Plan_any (la : Option Addr) (lc : Nat) (l : Lds) (k : Int) (w : World) (hn : l.n ≤ 100000) (hI : l.I64) (hl : SAt w.heap.size w la 4 l.n (ldF l)) :
  Calls Try.prog 28 #[.slice la l.n lc, iv k] w fun e w' => ∃ (ta : Option Addr) (tc : Nat) (T : List Trn) (ct : Option Blk), e = .returned (.tuple #[.slice ta T.length tc, iv (l.planE k)]) ∧ PlO l k ta tc T ct ∧ Own w.heap.size w w' [ct] := by
 refine calls_of_run (F := [(0, _), (1, _)]) Try.func28 rfl Try.ntmps28 rfl rfl ?_
 have hO0 := Own.init w
 refine run_seq <| run_region <| rl_v rfl rfl rfl (ov_assign rfl rfl) <| rl_v rfl rfl rfl (ov_assign rfl rfl) <| rl_nil <| run_seq <| run_seq <| run_region <| rl_v rfl rfl rfl (ov_move rfl rfl) <| rl_v rfl rfl rfl (ov_move rfl rfl) ?_
 refine rl_call callable_45 rfl rfl rfl rfl rfl rfl (checkKilns_any la lc l k _ hn hI (hO0.satU hl)) (fun e1 w2 hp3 => ?_)
 obtain ⟨rfl, hO1⟩ := hp3
 refine ⟨_, rfl, ?_⟩
 have hO4 := hO0.join hO1
 refine rl_v rfl rfl rfl (ov_assign rfl rfl) <| rl_nil <| run_seq <| run_region <| rl_v rfl rfl rfl (ov_move rfl rfl) <| rl_v rfl rfl rfl (ov_neq rfl rfl rfl) <| rl_nil ?_
 first | refine run_cond_dec rfl (fun c1 => ?_) (fun c1 => ?_) | refine run_cond rfl (fun c1 => ?_) (fun c1 => ?_)
 ·have hE := Lds.planE_bad c1
  refine run_seq <| run_region <| rl_v rfl rfl rfl (ov_move rfl rfl) <| rl_v rfl rfl rfl (ov_assign rfl rfl) <| rl_v rfl rfl rfl (ov_assign rfl rfl) <| rl_nil <| run_ret Try.func28 (res2 Try.results28 rfl rfl) ?_
  exact ⟨none, 0, [], none, by rw [hE]; rfl, PlO.nil (by rw [hE]; exact c1), hO4.nil_cons⟩
 ·have c1' : l.chkK k = 0 := Classical.not_not.1 c1
  obtain ⟨h1, h2, h3, h4⟩ := Lds.chkK_ne c1'
  have hF2 : ∀ i : Int, 0 ≤ i → i < l.n → 0 ≤ l.len i ∧ l.len i ≤ 1000000000 := fun i i0 i1 => by
   have h1 := h4.len1 i i0 i1
   have h2 := h4.len2 i i0 i1
   have h3 := h4.dM i i0 i1
   have h4 := h4.r0 i i0 i1
   omega
  refine run_skip <| run_seq <| run_region <| rl_v rfl rfl rfl (ov_move rfl rfl) <| rl_v rfl rfl rfl (ov_move rfl rfl) ?_
  refine rl_call callable_55 rfl rfl rfl rfl rfl rfl (newWorks_any la lc l k _ h1 h4 (by omega) (hO4.satU hl)) (fun e5 w6 hp7 => ?_)
  obtain ⟨wb, c, X, G, L, fl, LV, sa, sc, pa, pc, oa, oc, cp, HO, cs, rfl, hW, hO1⟩ := hp7
  refine ⟨_, rfl, ?_⟩
  have hO8 := hO4.join hO1
  have hcle := hW.b.cuts.le
  have hOp := hO8.sub (List.sublist_append_left _ _)
  refine rl_v rfl rfl rfl (ov_assign rfl rfl) <| rl_nil <| run_seq <| run_seq <| run_held (fun w' => Own w.heap.size w w' ([wkB wb la l.n lc sa (c - 1) sc pa (2 * G.np) pc oa G.nn oc fl])) mixed ?_
  have hO10 := hOp.drew
  generalize World.drew w6 = w9 at hO10 ⊢
  have hS11 : Own w.heap.size w w9 ([wkB wb la l.n lc sa (c - 1) sc pa (2 * G.np) pc oa G.nn oc fl]) := by exact hO10.sub (.cons_cons _ (List.nil_sublist _))
  refine rh_v 0 rfl (by kernel_rfl) rfl rfl rfl hS11 (fun _ hS => ov_move rfl rfl) ?_
  refine rh_v 1 rfl (by kernel_rfl) rfl rfl rfl hS11 (fun _ hS => ov_nil rfl rfl) ?_
  refine rh_v 2 rfl (by kernel_rfl) rfl rfl rfl hS11 (fun _ hS => ov_fieldS rfl Try.underlying103 rfl (fo := 4) rfl (by kernel_rfl) rfl) ?_
  refine rh_v 3 rfl (by kernel_rfl) rfl rfl rfl hS11 (fun _ hS => ov_load rfl Try.underlying3 rfl rfl (by exact hS.cellL 0 rfl (off := 4) rfl)) ?_
  refine rh_v 4 rfl (by kernel_rfl) rfl rfl rfl hS11 (fun _ hS => ov_move rfl rfl) ?_
  refine rh_any1 5 (by kernel_rfl) ?_
  refine rc_op rfl rfl (ow_call2 callable_56 rfl rfl rfl rfl rfl (need_any la lc l _ h1 hF2 (hO10.satU hl)) (by intro e w' hp; obtain ⟨rfl, hO2⟩ := hp; exact ⟨_, rfl⟩)) ?_
  rintro _ w14 ⟨_, v12, he15, rfl, hp13⟩
  obtain ⟨rfl, hO2⟩ := hp13
  injection he15 with he15; subst he15
  have hO16 := hO10.join hO2
  have hS17 : Own w.heap.size w w14 ([wkB wb la l.n lc sa (c - 1) sc pa (2 * G.np) pc oa G.nn oc fl]) := by exact hO16.sub (.cons_cons _ (List.nil_sublist _))
  refine ⟨hS17, ?_⟩
  refine rh_v 6 rfl (by kernel_rfl) rfl rfl rfl hS17 (fun _ hS => ov_lss rfl rfl rfl) ?_
  refine rh_done (by kernel_rfl) ?_
  first | refine run_cond_dec rfl (fun c2 => ?_) (fun c2 => ?_) | refine run_cond rfl (fun c2 => ?_) (fun c2 => ?_)
  ·have hcan : ¬ l.Can k := fun h => by
    have := (fits_val h4 (by omega) hW).2 h
    omega
   have hE := Lds.planE_late c1' hcan
   refine run_seq <| run_region <| rl_v rfl rfl rfl (ov_assign rfl rfl) <| rl_v rfl rfl rfl (ov_assign rfl rfl) <| rl_nil <| run_ret Try.func28 (res2 Try.results28 rfl rfl) ?_
   exact ⟨none, 0, [], none, by rw [hE]; rfl, PlO.nil (by rw [hE]; decide), (hO16.sub (List.nil_sublist _)).nil_cons⟩
  ·have hfl : fl = sm l.len l.n := by
    have := hW.b.fl_le hW.f
    omega
   have hcan : l.Can k := (fits_val h4 (by omega) hW).1 hfl
   have hE := Lds.planE_ok c1' hcan
   obtain ⟨x, hx⟩ : ∃ x : Int → Int → Int, x = fun i k => xf G L (1 + i) (1 + (l.n : Int) + k) := ⟨_, rfl⟩
   have hD : Deal l c X k x := by
    rw [hx]
    exact hW.b.deal hW.f hfl
   have hOn := hO16.nil_cons
   refine run_skip <| run_seq <| run_region <| rl_v rfl rfl rfl (ov_assign rfl rfl) <| rl_nil <| run_seq <| run_seq <| run_region <| rl_v rfl rfl rfl (ov_move rfl rfl) <| rl_v rfl rfl rfl (ov_nil rfl rfl) <| rl_v rfl rfl rfl (ov_fieldS rfl Try.underlying103 rfl (fo := 1) rfl (by kernel_rfl) rfl) ?_
   refine rl_v rfl rfl rfl (ov_load rfl Try.underlying48 rfl rfl (by exact hOn.cellL 1 rfl (off := 1) rfl)) ?_
   refine rl_v rfl rfl rfl (ov_len rfl Try.underlying48 rfl) <| rl_v rfl rfl rfl (ov_move rfl rfl) <| rl_nil <| run_block <| Run.keep [7, 8, 30, 31] (F' := [(7, _), (8, _), (30, _), (31, _)]) rfl <| run_loop2 (fun (j : Nat) (v : Value) => [(31, .int .i64 (j : Int)), (8, v)]) [7, 30] (fun (j : Nat) (v : Value) (w18 : World) => j ≤ c - 1 ∧ ∃ (T : List Trn) (ct : Option Blk), T.length ≤ 512 * j ∧ DAll l X x 1000000000 j T ∧ SRow v 53 3 T.length (trF T) ct ∧ Own w.heap.size w w18 (ct :: wkB wb la l.n lc sa (c - 1) sc pa (2 * G.np) pc oa G.nn oc fl :: cp :: (HO ++ [cs]))) (fun (j : Nat) (v : Value) => c - 1 - j) (0) (.slice none 0 0) ?_ (And.intro (by exact slot_int rfl (by first | omega)) (And.intro rfl (And.intro rfl (And.intro rfl trivial)))) ?_
   ·exact ⟨Nat.zero_le _, [], none, Nat.le_refl _, DAll.nil, SRow.nil _ _ _, hOn⟩
   intro j v w18 hIw18 ih19
   obtain ⟨hj, T, ct, hTl, hT, hr, hO7⟩ := hIw18
   show Run _ _ _ _ [(31, _), (8, _), (7, _), (30, _)] _ _
   refine run_seq <| run_region <| rl_v rfl rfl rfl (ov_lss rfl rfl rfl) <| rl_nil <| run_seq ?_
   first | refine run_cond_dec rfl (fun c3 => ?_) (fun c3 => ?_) | refine run_cond rfl (fun c3 => ?_) (fun c3 => ?_)
   ·refine run_skip <| run_seq <| run_block <| run_seq <| run_region <| rl_v rfl rfl rfl (ov_move rfl rfl) <| rl_v rfl rfl rfl (ov_assign rfl rfl) <| rl_nil <| run_region <| rl_v rfl rfl rfl (ov_move rfl rfl) <| rl_v rfl rfl rfl (ov_move rfl rfl) <| rl_v rfl rfl rfl (ov_move rfl rfl) ?_
    refine rl_call callable_57 rfl rfl rfl rfl rfl rfl (turns_any hW.b hW.sm h4 x hx hD j (by omega) c3 h1 _ (hW.at hO7 (.cons _ (List.Sublist.refl _))) (hW.spn.reads (hO7.sub (.cons _ (.cons _ (.cons _ (List.sublist_append_right _ _))))) 0 rfl)) (fun e20 w21 hp22 => ?_)
    obtain ⟨ta2, tc2, T2, ct2, rfl, hT2l, hT2, hr2, hO8⟩ := hp22
    refine ⟨_, rfl, ?_⟩
    have hO23 := hO7.join hO8
    refine rl_ow rfl (ow_appSR rfl rfl rfl Try.underlying51 info_53 rfl rfl hO23 1 hr rfl rfl rfl (hr2.reads hO23 0 rfl) (fun _ _ _ => ⟨rfl, rfl⟩) ⟨by omega, by omega⟩) ?_
    rintro _ w24 ⟨v38, c38, rfl, hO25, hr38, hs26⟩
    have hX0 := hW.b.cuts.rng h4 (j := j) (by omega) (by omega)
    have hX1 := hW.b.cuts.rng h4 (j := j + 1) (by omega) (by omega)
    have hT3 := hT.step hT2 (by omega) ⟨hX0.1, hX1.2⟩
    have hr39 : SRow v38 53 3 (T ++ T2).length (trF (T ++ T2)) c38 := by
     rw [List.length_append]
     exact hr38.congr (trF_join T T2)
    refine rl_v rfl rfl rfl (ov_assign rfl rfl) <| rl_nil <| run_inBlock <| run_region <| rl_v rfl rfl rfl (ov_add rfl rfl rfl (by omega)) ?_
    refine rl_v rfl rfl rfl (ov_move rfl rfl) <| rl_nil ?_
    refine Run.use (ih19 (j + 1) (v38) _ ?_ ?_) (And.intro (by exact slot_int rfl (by first | omega)) (And.intro rfl (And.intro rfl (And.intro rfl trivial))))
    ·first | omega | (dsimp only; omega)
    ·exact ⟨by omega, T ++ T2, c38, by rw [List.length_append]; omega, hT3, hr39, hO25.tail⟩
   ·have hjc : j = c - 1 := by omega
    rw [hjc] at hT
    obtain ⟨ta, tc, rfl⟩ := Row.val hr
    refine run_exit rfl <| run_seq <| run_region <| rl_v rfl rfl rfl (ov_move rfl rfl) ?_
    refine rl_call callable_58 rfl rfl rfl rfl rfl rfl (sortT_any ta tc T ct _ w w.heap.size _ (fun t ht => by have := hT.ok t ht; unfold SmT; omega) (by omega) hr hO7) (fun e27 w28 hp29 => ?_)
    obtain ⟨rfl, T9, ct9, hp, hs9, hr9, hO9⟩ := hp29
    refine ⟨_, rfl, ?_⟩
    have hpl := (hT.plan hD hW.b.cuts h4 (by omega)).perm hp.symm
    have hl9 := hp.length_eq
    refine rl_nil <| run_seq <| run_region <| rl_v rfl rfl rfl (ov_move rfl rfl) <| rl_v rfl rfl rfl (ov_assign rfl rfl) <| rl_v rfl rfl rfl (ov_assign rfl rfl) <| rl_nil <| run_ret Try.func28 (res2 Try.results28 rfl rfl) ?_
    exact ⟨ta, tc, T9, ct9, by rw [hE, hl9], ⟨hr9, fun _ => ⟨hpl, hs9, by omega⟩, fun h => absurd hE h⟩, hO9.sub (.cons_cons _ (List.nil_sublist _))⟩
end Go.Proofs.Ytbepolognfdkeaa
