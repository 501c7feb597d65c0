import Derived.Test.YtbepolognfdkeaaGcN
set_option maxRecDepth 100000
namespace Go.Proofs.Ytbepolognfdkeaa
open Go.RowKit Go.Proofs Go.MapKept
section
variable {B : Nat} {w0 w : World}
theorem own_take (K : List (Option Blk)) {n : Nat} {ch : Nat → Option Blk} {R : List (Option Blk)} (i : Nat) (hi : i < n) (h : Own B w0 w (K ++ ((List.range n).map ch ++ R))) : Own B w0 w (ch i :: (K ++ (((List.range n).erase i).map ch ++ R))) := by
 have p := ((List.perm_cons_erase (List.mem_range.2 hi)).map ch).append_right R
 exact h.perm ((p.append_left K).trans List.perm_middle)
theorem own_put (K : List (Option Blk)) {n : Nat} {ch : Nat → Option Blk} {R : List (Option Blk)} {cr : Option Blk} (i : Nat) (hi : i < n) (h : Own B w0 w (cr :: (K ++ (((List.range n).erase i).map ch ++ R)))) : Own B w0 w (K ++ ((List.range n).map (fun r => if r = i then cr else ch r) ++ R)) := by
 have p := ((List.perm_cons_erase (List.mem_range.2 hi)).map (fun r => if r = i then cr else ch r)).append_right R
 have e : ((List.range n).erase i).map (fun r => if r = i then cr else ch r) = ((List.range n).erase i).map ch := List.map_congr_left fun r hr => by
  have : r ≠ i := fun e => by rw [e] at hr; exact (List.Nodup.not_mem_erase List.nodup_range) hr
  exact if_neg this
 simp only [List.map_cons, if_true, e] at p
 exact h.perm (List.perm_middle.symm.trans (p.symm.append_left K))
theorem own_none (n : Nat) {a b : Option Blk} (h : Own B w0 w [a, b]) : Own B w0 w (b :: a :: ((List.range n).map (fun _ => none) ++ [])) := by
 have e : (List.range n).map (fun _ => (none : Option Blk)) = List.replicate n none := by rw [List.map_const', List.length_range]
 rw [e, List.append_nil]
 exact (h.nones n).perm (List.perm_append_comm.trans (List.Perm.swap _ _ _))
theorem spL_app (S : List (Int × Int)) (a : Int × Int) : ∀ i : Int, 0 ≤ i → i < (S.length + 1 : Nat) → upd (spL S) S.length (spV a) i = spL (S ++ [a]) i := fun i i0 i1 => by
 unfold spL
 by_cases c : i = S.length
 ·rw [c, upd_same, Int.toNat_natCast, List.getD_eq_getElem?_getD, List.getElem?_append_right (Nat.le_refl _), Nat.sub_self]; rfl
 ·rw [upd_ne _ _ c, List.getD_eq_getElem?_getD, List.getD_eq_getElem?_getD, List.getElem?_append_left (by omega)]
theorem rows_step {n : Nat} {E : TypeId} {rv : Int → Value} {ch : Nat → Option Blk} {P : List Trn} {t : Trn} {u : Nat} {v : Value} {c : Option Blk} (h3 : ∀ r : Nat, r < n → SRow (rv r) E 2 (spn P r).length (spL (spn P r)) (ch r)) (hu : (u : Int) = t.1)
  (hr : SRow v E 2 ((spn P t.1).length + 1) (upd (spL (spn P t.1)) (spn P t.1).length (spV t.2)) c) : ∀ r : Nat, r < n → SRow (upd rv t.1 v r) E 2 (spn (P ++ [t]) r).length (spL (spn (P ++ [t]) r)) (if r = u then c else ch r) := fun r hrn => by
 by_cases e : r = u
 ·rw [if_pos e, e, hu, upd_same, spn_same, List.length_append]
  exact hr.congr (spL_app _ _)
 ·rw [if_neg e, upd_ne _ _ (by omega), spn_ne _ _ (by omega)]
  exact h3 r hrn
end
theorem ov_lookupD {P : Program} {N : Nat} {o : Oper} {F : Fr} {w : World} {T kt et : TypeId} {x ix : Operand} {z v : Value} {b : Nat} {i : Int} {L : List (Int × Value)} (ho : o.op = .lookup T x ix false) (hT : P.underlying T = some (.map kt et)) (hk : P.underlying kt = some (.int .i64)) (hz : (P.info? et).map (·.zero) = some (some z))
  (hx : Fr.ev F x = some (.map (some b))) (hi : Fr.ev F ix = some (.int .i64 i)) (hm : w.heap[b]? = some (.map (ents L 0).toArray L.length)) (hv : (lkp L i).getD z = v) : OpV P N o F w v := by
 have h := ov_lookup (P := P) (N := N) (o := o) (F := F) ho hT hk hz hx hi hm
 rw [hv] at h
 exact h
theorem take_snoc {T : List Trn} {i : Nat} (h : i < T.length) : T.take (i + 1) = T.take i ++ [qT T i] := by
 rw [List.take_add_one, List.getElem?_eq_getElem h, qT_nat h]; rfl
theorem sL_ind01 (p : Trn → Prop) : ∀ T : List Trn, 0 ≤ sL (fun u => ind (p u)) T ∧ sL (fun u => ind (p u)) T ≤ T.length
 | [] => ⟨Int.le_refl _, Int.le_refl _⟩
 | t :: T => by
  have h := sL_ind01 p T
  have h1 := ind_rng (p t)
  have e : ((t :: T).length : Int) = T.length + 1 := by simp
  rw [e]
  show 0 ≤ ind (p t) + sL (fun u => ind (p u)) T ∧ ind (p t) + sL (fun u => ind (p u)) T ≤ T.length + 1
  omega
theorem PlanOk.row {l : Lds} {k : Int} {T : List Trn} (h : PlanOk l k T) (hk : 0 ≤ k) {r : Int} (r0 : 0 ≤ r) (r1 : r < l.n) : (spn T r).Pairwise Apart ∧ sumS (spn T r) = l.len r := ((planL_iff hk).2 h).one r r0 r1
theorem apart_perm {S S' : List (Int × Int)} (hp : S'.Perm S) : S'.Pairwise Apart ↔ S.Pairwise Apart := hp.pairwise_iff fun {a b} hab => ⟨hab.2, hab.1⟩
theorem qS_perm {S S' : List (Int × Int)} (hp : S'.Perm S) {j : Int} (j0 : 0 ≤ j) (j1 : j < S.length) : qS S' j ∈ S := hp.mem_iff.1 (qS_mem j0 (by rw [hp.length_eq]; exact j1))
set_option maxHeartbeats 8000000 in
theorem isPlan7_any (la : Option Addr) (lc : Nat) (l : Lds) (k : Int) (ta : Option Addr) (tc : Nat) (T : List Trn) (w : World) (hn : l.n ≤ 100000) (hI : l.I64) (hN : T.length ≤ 500000) (hl : SAt w.heap.size w la 4 l.n (ldF l)) (ht : SAt w.heap.size w ta 3 T.length (trF T)) :
  Calls Try.prog 24 #[.slice la l.n lc, iv k, .slice ta T.length tc] w fun e w' => e = .returned (.bool (decide (l.chkK k = 0 ∧ PlanOk l k T))) ∧ Own w.heap.size w w' [] := by
 obtain ⟨lb, lo, hla, hlr⟩ := hl.open (by decide)
 obtain ⟨tb, to, hta, htr⟩ := ht.open (by decide)
 refine calls_of_run (F := [(0, _), (1, _), (2, _)]) Try.func24 rfl Try.ntmps24 rfl rfl ?_
 have hO0 := Own.init w
 refine run_seq <| run_region <| rl_v rfl rfl rfl (ov_assign rfl rfl) <| rl_nil <| run_seq <| run_seq <| run_region <| rl_v rfl rfl rfl (ov_move rfl rfl) <| rl_v rfl rfl rfl (ov_move rfl rfl) ?_
 refine rl_call callable_45 rfl rfl rfl rfl rfl rfl (checkKilns_any la lc l k _ hn hI (hO0.satU hl)) (fun e1 w2 hp3 => ?_)
 obtain ⟨rfl, hOa⟩ := hp3
 refine ⟨_, rfl, ?_⟩
 have hO4 := hO0.join hOa
 refine rl_v rfl rfl rfl (ov_neq rfl rfl rfl) <| rl_nil ?_
 first | refine run_cond_dec rfl (fun c0 => ?_) (fun c0 => ?_) | refine run_cond rfl (fun c0 => ?_) (fun c0 => ?_)
 ·refine run_seq <| run_region <| rl_v rfl rfl rfl (ov_assign rfl rfl) <| rl_nil <| run_ret Try.func24 (res1 Try.results24 rfl) ?_
  exact ⟨by rw [decide_eq_false fun h => c0 h.1], hO4⟩
 ·have c0' : l.chkK k = 0 := Classical.not_not.1 c0
  obtain ⟨hn2, hV, hk, hF⟩ := Lds.chkK_ne c0'
  refine run_skip <| run_seq <| run_region <| rl_v rfl rfl rfl (ov_move rfl rfl) <| rl_v rfl rfl rfl (ov_len rfl Try.underlying27 rfl) ?_
  refine rl_make (l.n) rfl rfl rfl rfl Try.underlying91 info_48 rfl hO4 rfl rfl (by rfl) (by rfl) ⟨by omega, by omega⟩ (fun sb w5 hO6 hs7 => ?_)
  refine rl_v rfl rfl rfl (ov_assign rfl rfl) <| rl_nil <| run_seq <| run_region <| rl_ow rfl (ow_makemap rfl rfl rfl hO6) ?_
  rintro _ w8 ⟨bm, rfl, hO9, hs10⟩
  refine rl_v rfl rfl rfl (ov_assign rfl rfl) <| rl_nil <| run_seq <| run_seq <| run_region <| rl_v rfl rfl rfl (ov_move rfl rfl) <| rl_v rfl rfl rfl (ov_len rfl Try.underlying51 rfl) <| rl_v rfl rfl rfl (ov_move rfl rfl) <| rl_nil <| run_block <| Run.keep [0, 1, 7, 8, 28, 29, 30] (F' := [(0, _), (1, _), (7, _), (8, _), (28, _), (29, _), (30, _)]) rfl <| run_loop1 (fun (i : Nat) => [(30, .int .i64 (i : Int))]) [0, 1, 7, 8, 28, 29] (fun (i : Nat) (w11 : World) => i ≤ T.length ∧ ∃ (rv : Int → Value) (ch : Nat → Option Blk) (M : List (Int × Value)), (∀ t ∈ T.take i, OkT l t) ∧ (∀ r : Nat, r < l.n → SRow (rv r) 89 2 (spn (T.take i) r).length (spL (spn (T.take i) r)) (ch r)) ∧ ChgI (T.take i) M ∧ Own w.heap.size w w11 (some (vch sb 48 l.n rv) :: some (mch bm M) :: ((List.range l.n).map ch ++ []))) (fun (i : Nat) => T.length - i) (0) ?_ (And.intro (by exact slot_int rfl (by first | omega)) (And.intro rfl (And.intro rfl (And.intro rfl (And.intro rfl (And.intro rfl (And.intro rfl trivial))))))) ?_
  ·exact ⟨Nat.zero_le _, fun _ => .slice none 0 0, fun _ => none, [], fun t ht => (nomatch ht), fun r _ => SRow.nil _ _ _, ChgI.nil, own_none l.n hO9⟩
  intro i w11 hIw11 ih12
  obtain ⟨hi, rv, ch, M, hok, h3, hM, hO1⟩ := hIw11
  show Run _ _ _ _ [(30, _), (0, _), (1, _), (7, _), (8, _), (28, _), (29, _)] _ _
  refine run_seq <| run_region <| rl_v rfl rfl rfl (ov_lss rfl rfl rfl) <| rl_nil <| run_seq ?_
  first | refine run_cond_dec rfl (fun c1 => ?_) (fun c1 => ?_) | refine run_cond rfl (fun c1 => ?_) (fun c1 => ?_)
  ·obtain ⟨t, hte⟩ : ∃ t, t = qT T i := ⟨_, rfl⟩
   have htm : t ∈ T := by rw [hte]; exact qT_mem (by omega) c1
   refine run_skip <| run_seq <| run_block <| run_seq <| run_region <| rl_v rfl rfl rfl (ov_index rfl Try.underlying51 (by kernel_rfl) (s := 3) rfl rfl ⟨by omega, by omega⟩ (by exact hta (by omega))) ?_
   refine rl_v rfl rfl rfl (ov_loadE rfl Try.underlying53 rfl (by kernel_rfl) rfl ⟨by omega, by omega⟩ rfl (htr _ hO1.below)) ?_
   refine rl_ow rfl (ow_alloc _ rfl rfl rfl zero_53 rfl hO1) ?_
   rintro _ w13 ⟨t10, rfl, hO14, hs15⟩
   refine rl_ow rfl (ow_storeW rfl rfl (by kernel_rfl) hO14 0 rfl rfl (by rfl) rfl (by rfl)) ?_
   rintro _ w16 ⟨rfl, hO17, hs18⟩
   have hOz : Own w.heap.size w w16 (some (lch t10 53 (trV t)) :: some (vch sb 48 l.n rv) :: some (mch bm M) :: ((List.range l.n).map ch ++ [])) := by rw [hte]; exact hO17
   refine rl_nil <| run_seq <| run_seq ?_
   refine run_quiet_join mixed (by kernel_rfl) 72 (.bool (decide (¬ ((0 ≤ t.1 ∧ t.1 < l.n) ∧ t.2.1 < t.2.2 ∧ l.r t.1 ≤ t.2.1 ∧ t.2.2 ≤ l.d t.1)))) [0, 1, 7, 8, 10, 28, 29, 30] (fun hk19 => ?_) (fun n20 => ?_)
   ·refine rq_v rfl rfl rfl (fun _ => ov_fieldS rfl Try.underlying53 rfl (fo := 0) rfl (by kernel_rfl) rfl) ?_
    refine rq_v rfl rfl rfl (fun _ => ov_load rfl Try.underlying3 rfl rfl (by show World.cell? w16 _ = _; first | exact hOz.cellL 0 rfl (off := 0) rfl)) ?_
    refine rq_v rfl rfl rfl (fun _ => ov_lss rfl rfl rfl) ?_
    refine rq_v rfl rfl rfl (fun _ => ov_move rfl rfl) ?_
    first | refine rq_split_dec 37 rfl (fun hg21 => ?_) (fun hg21 => ?_) | refine rq_split 37 rfl (fun hg21 => ?_) (fun hg21 => ?_)
    ·refine rq_gskip rfl rfl rfl rfl rfl rfl <| rq_gskip rfl rfl rfl rfl rfl rfl <| rq_gskip rfl rfl rfl rfl rfl rfl <| rq_gskip rfl rfl rfl rfl rfl rfl <| rq_gskip rfl rfl rfl rfl rfl rfl <| rq_v rfl rfl rfl (fun _ => ov_pick_t rfl rfl rfl) ?_
     refine rq_v rfl rfl rfl (fun _ => ov_move rfl rfl) ?_
     refine rq_gskip rfl rfl rfl rfl rfl rfl <| rq_gskip rfl rfl rfl rfl rfl rfl <| rq_gskip rfl rfl rfl rfl rfl rfl <| rq_gskip rfl rfl rfl rfl rfl rfl <| rq_gskip rfl rfl rfl rfl rfl rfl <| rq_v rfl rfl rfl (fun _ => ov_pick_t rfl rfl rfl) ?_
     refine rq_v rfl rfl rfl (fun _ => ov_move rfl rfl) ?_
     refine rq_gskip rfl rfl rfl rfl rfl rfl <| rq_gskip rfl rfl rfl rfl rfl rfl <| rq_gskip rfl rfl rfl rfl rfl rfl <| rq_gskip rfl rfl rfl rfl rfl rfl <| rq_gskip rfl rfl rfl rfl rfl rfl <| rq_gskip rfl rfl rfl rfl rfl rfl <| rq_gskip rfl rfl rfl rfl rfl rfl <| rq_gskip rfl rfl rfl rfl rfl rfl <| rq_gskip rfl rfl rfl rfl rfl rfl <| rq_v rfl rfl rfl (fun _ => ov_pick_t rfl rfl rfl) ?_
     refine rq_v rfl rfl rfl (fun _ => ov_move rfl rfl) ?_
     refine rq_gskip rfl rfl rfl rfl rfl rfl <| rq_gskip rfl rfl rfl rfl rfl rfl <| rq_gskip rfl rfl rfl rfl rfl rfl <| rq_gskip rfl rfl rfl rfl rfl rfl <| rq_gskip rfl rfl rfl rfl rfl rfl <| rq_gskip rfl rfl rfl rfl rfl rfl <| rq_gskip rfl rfl rfl rfl rfl rfl <| rq_gskip rfl rfl rfl rfl rfl rfl <| rq_gskip rfl rfl rfl rfl rfl rfl <| rq_v rfl rfl rfl (fun _ => ov_pick_t rfl rfl rfl) ?_
     refine rq_nil (fun n => hk19 n _ (jbt rfl (by omega)) (And.intro rfl (And.intro rfl (And.intro rfl (And.intro rfl (And.intro rfl (And.intro rfl (And.intro rfl (And.intro rfl trivial)))))))))
    ·refine rq_gv rfl rfl rfl rfl rfl (fun _ => ov_fieldS rfl Try.underlying53 rfl (fo := 0) rfl (by kernel_rfl) rfl) ?_
     refine rq_gv rfl rfl rfl rfl rfl (fun _ => ov_load rfl Try.underlying3 rfl rfl (by show World.cell? w16 _ = _; first | exact hOz.cellL 0 rfl (off := 0) rfl)) ?_
     refine rq_gv rfl rfl rfl rfl rfl (fun _ => ov_move rfl rfl) ?_
     refine rq_gv rfl rfl rfl rfl rfl (fun _ => ov_len rfl Try.underlying27 rfl) ?_
     refine rq_gv rfl rfl rfl rfl rfl (fun _ => ov_geq rfl rfl rfl) ?_
     refine rq_v rfl rfl rfl (fun _ => ov_pick_f rfl rfl rfl) ?_
     refine rq_v rfl rfl rfl (fun _ => ov_move rfl rfl) ?_
     first | refine rq_split_dec 44 rfl (fun hg22 => ?_) (fun hg22 => ?_) | refine rq_split 44 rfl (fun hg22 => ?_) (fun hg22 => ?_)
     ·refine rq_gskip rfl rfl rfl rfl rfl rfl <| rq_gskip rfl rfl rfl rfl rfl rfl <| rq_gskip rfl rfl rfl rfl rfl rfl <| rq_gskip rfl rfl rfl rfl rfl rfl <| rq_gskip rfl rfl rfl rfl rfl rfl <| rq_v rfl rfl rfl (fun _ => ov_pick_t rfl rfl rfl) ?_
      refine rq_v rfl rfl rfl (fun _ => ov_move rfl rfl) ?_
      refine rq_gskip rfl rfl rfl rfl rfl rfl <| rq_gskip rfl rfl rfl rfl rfl rfl <| rq_gskip rfl rfl rfl rfl rfl rfl <| rq_gskip rfl rfl rfl rfl rfl rfl <| rq_gskip rfl rfl rfl rfl rfl rfl <| rq_gskip rfl rfl rfl rfl rfl rfl <| rq_gskip rfl rfl rfl rfl rfl rfl <| rq_gskip rfl rfl rfl rfl rfl rfl <| rq_gskip rfl rfl rfl rfl rfl rfl <| rq_v rfl rfl rfl (fun _ => ov_pick_t rfl rfl rfl) ?_
      refine rq_v rfl rfl rfl (fun _ => ov_move rfl rfl) ?_
      refine rq_gskip rfl rfl rfl rfl rfl rfl <| rq_gskip rfl rfl rfl rfl rfl rfl <| rq_gskip rfl rfl rfl rfl rfl rfl <| rq_gskip rfl rfl rfl rfl rfl rfl <| rq_gskip rfl rfl rfl rfl rfl rfl <| rq_gskip rfl rfl rfl rfl rfl rfl <| rq_gskip rfl rfl rfl rfl rfl rfl <| rq_gskip rfl rfl rfl rfl rfl rfl <| rq_gskip rfl rfl rfl rfl rfl rfl <| rq_v rfl rfl rfl (fun _ => ov_pick_t rfl rfl rfl) ?_
      refine rq_nil (fun n => hk19 n _ (jbt rfl (by omega)) (And.intro rfl (And.intro rfl (And.intro rfl (And.intro rfl (And.intro rfl (And.intro rfl (And.intro rfl (And.intro rfl trivial)))))))))
     ·refine rq_gv rfl rfl rfl rfl rfl (fun _ => ov_fieldS rfl Try.underlying53 rfl (fo := 1) rfl (by kernel_rfl) rfl) ?_
      refine rq_gv rfl rfl rfl rfl rfl (fun _ => ov_load rfl Try.underlying3 rfl rfl (by show World.cell? w16 _ = _; first | exact hOz.cellL 0 rfl (off := 1) rfl)) ?_
      refine rq_gv rfl rfl rfl rfl rfl (fun _ => ov_fieldS rfl Try.underlying53 rfl (fo := 2) rfl (by kernel_rfl) rfl) ?_
      refine rq_gv rfl rfl rfl rfl rfl (fun _ => ov_load rfl Try.underlying3 rfl rfl (by show World.cell? w16 _ = _; first | exact hOz.cellL 0 rfl (off := 2) rfl)) ?_
      refine rq_gv rfl rfl rfl rfl rfl (fun _ => ov_geq rfl rfl rfl) ?_
      refine rq_v rfl rfl rfl (fun _ => ov_pick_f rfl rfl rfl) ?_
      refine rq_v rfl rfl rfl (fun _ => ov_move rfl rfl) ?_
      first | refine rq_split_dec 51 rfl (fun hg23 => ?_) (fun hg23 => ?_) | refine rq_split 51 rfl (fun hg23 => ?_) (fun hg23 => ?_)
      ·refine rq_gskip rfl rfl rfl rfl rfl rfl <| rq_gskip rfl rfl rfl rfl rfl rfl <| rq_gskip rfl rfl rfl rfl rfl rfl <| rq_gskip rfl rfl rfl rfl rfl rfl <| rq_gskip rfl rfl rfl rfl rfl rfl <| rq_gskip rfl rfl rfl rfl rfl rfl <| rq_gskip rfl rfl rfl rfl rfl rfl <| rq_gskip rfl rfl rfl rfl rfl rfl <| rq_gskip rfl rfl rfl rfl rfl rfl <| rq_v rfl rfl rfl (fun _ => ov_pick_t rfl rfl rfl) ?_
       refine rq_v rfl rfl rfl (fun _ => ov_move rfl rfl) ?_
       refine rq_gskip rfl rfl rfl rfl rfl rfl <| rq_gskip rfl rfl rfl rfl rfl rfl <| rq_gskip rfl rfl rfl rfl rfl rfl <| rq_gskip rfl rfl rfl rfl rfl rfl <| rq_gskip rfl rfl rfl rfl rfl rfl <| rq_gskip rfl rfl rfl rfl rfl rfl <| rq_gskip rfl rfl rfl rfl rfl rfl <| rq_gskip rfl rfl rfl rfl rfl rfl <| rq_gskip rfl rfl rfl rfl rfl rfl <| rq_v rfl rfl rfl (fun _ => ov_pick_t rfl rfl rfl) ?_
       refine rq_nil (fun n => hk19 n _ (jbt rfl (by omega)) (And.intro rfl (And.intro rfl (And.intro rfl (And.intro rfl (And.intro rfl (And.intro rfl (And.intro rfl (And.intro rfl trivial)))))))))
      ·refine rq_gv rfl rfl rfl rfl rfl (fun _ => ov_fieldS rfl Try.underlying53 rfl (fo := 1) rfl (by kernel_rfl) rfl) ?_
       refine rq_gv rfl rfl rfl rfl rfl (fun _ => ov_load rfl Try.underlying3 rfl rfl (by show World.cell? w16 _ = _; first | exact hOz.cellL 0 rfl (off := 1) rfl)) ?_
       refine rq_gv rfl rfl rfl rfl rfl (fun _ => ov_move rfl rfl) ?_
       refine rq_gv rfl rfl rfl rfl rfl (fun _ => ov_fieldS rfl Try.underlying53 rfl (fo := 0) rfl (by kernel_rfl) rfl) ?_
       refine rq_gv rfl rfl rfl rfl rfl (fun _ => ov_load rfl Try.underlying3 rfl rfl (by show World.cell? w16 _ = _; first | exact hOz.cellL 0 rfl (off := 0) rfl)) ?_
       refine rq_gv rfl rfl rfl rfl rfl (fun _ => ov_index rfl Try.underlying27 (by kernel_rfl) (s := 4) rfl rfl ⟨by omega, by omega⟩ (by exact hla (by omega))) ?_
       refine rq_gv rfl rfl rfl rfl rfl (fun _ => ov_fieldS rfl Try.underlying84 rfl (fo := 0) rfl (by kernel_rfl) rfl) ?_
       refine rq_gv rfl rfl rfl rfl rfl (fun _ => ov_load rfl Try.underlying3 rfl rfl (by show World.cell? w16 _ = _; first | exact hlr _ hOz.below t.1 (by omega) (by omega) 0 (by decide))) ?_
       refine rq_gv rfl rfl rfl rfl rfl (fun _ => ov_lss rfl rfl rfl) ?_
       refine rq_v rfl rfl rfl (fun _ => ov_pick_f rfl rfl rfl) ?_
       refine rq_v rfl rfl rfl (fun _ => ov_move rfl rfl) ?_
       first | refine rq_split_dec 62 rfl (fun hg24 => ?_) (fun hg24 => ?_) | refine rq_split 62 rfl (fun hg24 => ?_) (fun hg24 => ?_)
       ·refine rq_gskip rfl rfl rfl rfl rfl rfl <| rq_gskip rfl rfl rfl rfl rfl rfl <| rq_gskip rfl rfl rfl rfl rfl rfl <| rq_gskip rfl rfl rfl rfl rfl rfl <| rq_gskip rfl rfl rfl rfl rfl rfl <| rq_gskip rfl rfl rfl rfl rfl rfl <| rq_gskip rfl rfl rfl rfl rfl rfl <| rq_gskip rfl rfl rfl rfl rfl rfl <| rq_gskip rfl rfl rfl rfl rfl rfl <| rq_v rfl rfl rfl (fun _ => ov_pick_t rfl rfl rfl) ?_
        refine rq_nil (fun n => hk19 n _ (jbt rfl (by omega)) (And.intro rfl (And.intro rfl (And.intro rfl (And.intro rfl (And.intro rfl (And.intro rfl (And.intro rfl (And.intro rfl trivial)))))))))
       ·refine rq_gv rfl rfl rfl rfl rfl (fun _ => ov_fieldS rfl Try.underlying53 rfl (fo := 2) rfl (by kernel_rfl) rfl) ?_
        refine rq_gv rfl rfl rfl rfl rfl (fun _ => ov_load rfl Try.underlying3 rfl rfl (by show World.cell? w16 _ = _; first | exact hOz.cellL 0 rfl (off := 2) rfl)) ?_
        refine rq_gv rfl rfl rfl rfl rfl (fun _ => ov_move rfl rfl) ?_
        refine rq_gv rfl rfl rfl rfl rfl (fun _ => ov_fieldS rfl Try.underlying53 rfl (fo := 0) rfl (by kernel_rfl) rfl) ?_
        refine rq_gv rfl rfl rfl rfl rfl (fun _ => ov_load rfl Try.underlying3 rfl rfl (by show World.cell? w16 _ = _; first | exact hOz.cellL 0 rfl (off := 0) rfl)) ?_
        refine rq_gv rfl rfl rfl rfl rfl (fun _ => ov_index rfl Try.underlying27 (by kernel_rfl) (s := 4) rfl rfl ⟨by omega, by omega⟩ (by exact hla (by omega))) ?_
        refine rq_gv rfl rfl rfl rfl rfl (fun _ => ov_fieldS rfl Try.underlying84 rfl (fo := 1) rfl (by kernel_rfl) rfl) ?_
        refine rq_gv rfl rfl rfl rfl rfl (fun _ => ov_load rfl Try.underlying3 rfl rfl (by show World.cell? w16 _ = _; first | exact hlr _ hOz.below t.1 (by omega) (by omega) 1 (by decide))) ?_
        refine rq_gv rfl rfl rfl rfl rfl (fun _ => ov_gtr rfl rfl rfl) ?_
        refine rq_v rfl rfl rfl (fun _ => ov_pick_f rfl rfl rfl) ?_
        refine rq_nil (fun n => hk19 n _ (jbd rfl (by omega)) (And.intro rfl (And.intro rfl (And.intro rfl (And.intro rfl (And.intro rfl (And.intro rfl (And.intro rfl (And.intro rfl trivial)))))))))
   ·have hO26 := hOz.drewN n20
    generalize World.drewN w16 n20 = w25 at hO26 ⊢
    show Run _ _ _ _ [(72, _), (0, _), (1, _), (7, _), (8, _), (10, _), (28, _), (29, _), (30, _)] _ _
    first | refine run_cond_dec rfl (fun c2 => ?_) (fun c2 => ?_) | refine run_cond rfl (fun c2 => ?_) (fun c2 => ?_)
    ·refine run_seq <| run_region <| rl_v rfl rfl rfl (ov_assign rfl rfl) <| rl_nil <| run_ret Try.func24 (res1 Try.results24 rfl) ?_
     exact ⟨by rw [decide_eq_false fun h => c2 (h.2.ok t htm)], hO26.sub (List.nil_sublist _)⟩
    ·have c2' : OkT l t := Classical.not_not.1 c2
     obtain ⟨hu0, hw0, hr0, hd0⟩ := c2'
     obtain ⟨u, hu⟩ : ∃ u : Nat, (u : Int) = t.1 := ⟨t.1.toNat, by omega⟩
     have hun : u < l.n := by omega
     have hsp := spn_len (T.take i) t.1
     have htl : (T.take i).length = i := by rw [List.length_take]; omega
     have h3u : SRow (rv t.1) 89 2 (spn (T.take i) t.1).length (spL (spn (T.take i) t.1)) (ch u) := by have := h3 u hun; rw [hu] at this; exact this
     obtain ⟨ra, rc, erv⟩ := Row.val h3u
     rw [erv] at h3u
     have hOt := own_take [_, _, _] u hun hO26
     refine run_skip <| run_seq <| run_late (fun w' => Own w.heap.size w w' ([some (lch t10 53 (trV t)), some (vch sb 48 l.n rv)])) 16 mixed ?_
     have hO28 := hOt.drew
     generalize World.drew w25 = w27 at hO28 ⊢
     have hS29 : Own w.heap.size w w27 ([some (lch t10 53 (trV t)), some (vch sb 48 l.n rv)]) := by first | exact hO28.sub (.cons _ (.cons_cons _ (.cons_cons _ (List.nil_sublist _)))) | exact hO28.sub (.cons _ (.cons _ (.cons_cons _ (.cons_cons _ (List.nil_sublist _)))))
     refine rhl_v 0 rfl (by kernel_rfl) rfl rfl rfl hS29 (fun _ hS => ov_move rfl rfl) ?_
     refine rhl_v 1 rfl (by kernel_rfl) rfl rfl rfl hS29 (fun _ hS => ov_fieldS rfl Try.underlying53 rfl (fo := 0) rfl (by kernel_rfl) rfl) ?_
     refine rhl_v 2 rfl (by kernel_rfl) rfl rfl rfl hS29 (fun _ hS => ov_load rfl Try.underlying3 rfl rfl (by exact hS.cellL 0 rfl (off := 0) rfl)) ?_
     refine rhl_v 3 rfl (by kernel_rfl) rfl rfl rfl hS29 (fun _ hS => ov_move rfl rfl) ?_
     refine rhl_v 4 rfl (by kernel_rfl) rfl rfl rfl hS29 (fun _ hS => ov_fieldS rfl Try.underlying53 rfl (fo := 0) rfl (by kernel_rfl) rfl) ?_
     refine rhl_v 5 rfl (by kernel_rfl) rfl rfl rfl hS29 (fun _ hS => ov_load rfl Try.underlying3 rfl rfl (by exact hS.cellL 0 rfl (off := 0) rfl)) ?_
     refine rhl_v 6 rfl (by kernel_rfl) rfl rfl rfl hS29 (fun _ hS => ov_index1 rfl Try.underlying91 (by kernel_rfl) rfl rfl ⟨by omega, by omega⟩ (by rfl)) ?_
     refine rhl_v 7 rfl (by kernel_rfl) rfl rfl rfl hS29 (fun _ hS => ov_load rfl Try.underlying48 rfl rfl (by exact (hS.cellI 1 rfl t.1 (by omega) (by omega)).trans (congrArg some erv))) ?_
     refine rhl_v 8 rfl (by kernel_rfl) rfl rfl rfl hS29 (fun _ hS => ov_fieldS rfl Try.underlying53 rfl (fo := 1) rfl (by kernel_rfl) rfl) ?_
     refine rhl_v 9 rfl (by kernel_rfl) rfl rfl rfl hS29 (fun _ hS => ov_load rfl Try.underlying3 rfl rfl (by exact hS.cellL 0 rfl (off := 1) rfl)) ?_
     refine rhl_v 10 rfl (by kernel_rfl) rfl rfl rfl hS29 (fun _ hS => ov_fieldS rfl Try.underlying53 rfl (fo := 2) rfl (by kernel_rfl) rfl) ?_
     refine rhl_v 11 rfl (by kernel_rfl) rfl rfl rfl hS29 (fun _ hS => ov_load rfl Try.underlying3 rfl rfl (by exact hS.cellL 0 rfl (off := 2) rfl)) ?_
     refine rhl_v 12 rfl (by kernel_rfl) rfl rfl rfl hS29 (fun _ hS => ov_buildA2 rfl Try.underlying89 zero_89 (by kernel_rfl) rfl rfl rfl rfl rfl) ?_
     refine rhl_any1 13 (by kernel_rfl) ?_
     refine rcl_op rfl rfl (ow_build [_] rfl rfl rfl rfl rfl Try.underlying48 info_89 (by decide) hO28 rfl rfl) ?_
     rintro _ w30 ⟨b86, rfl, hO31, hs32⟩
     have hS33 : Own w.heap.size w w30 ([some (lch t10 53 (trV t)), some (vch sb 48 l.n rv)]) := by first | exact hO31.sub (.cons _ (.cons_cons _ (.cons_cons _ (List.nil_sublist _)))) | exact hO31.sub (.cons _ (.cons _ (.cons_cons _ (.cons_cons _ (List.nil_sublist _)))))
     refine ⟨hS33, ?_⟩
     refine rhl_any1 14 (by kernel_rfl) ?_
     refine rcl_op rfl rfl (ow_appR1 rfl rfl rfl Try.underlying48 info_89 rfl rfl hO31 0 h3u rfl rfl rfl rfl rfl ⟨by omega, by omega⟩) ?_
     rintro _ w34 ⟨v87, c87, rfl, hO35, hr87, hs36⟩
     have hS37 : Own w.heap.size w w34 ([some (lch t10 53 (trV t)), some (vch sb 48 l.n rv)]) := by first | exact hO35.sub (.cons _ (.cons_cons _ (.cons_cons _ (List.nil_sublist _)))) | exact hO35.sub (.cons _ (.cons _ (.cons_cons _ (.cons_cons _ (List.nil_sublist _)))))
     refine ⟨hS37, ?_⟩
     obtain ⟨a87, cp87, rfl⟩ := Row.val hr87
     refine rhl_v 15 rfl (by kernel_rfl) rfl rfl rfl hS37 (fun _ hS => ov_index1 rfl Try.underlying91 (by kernel_rfl) rfl rfl ⟨by omega, by omega⟩ (by rfl)) ?_
     refine rhl_any1 16 (by kernel_rfl) ?_
     refine rcl_last rfl rfl (ow_store rfl rfl (by kernel_rfl) hO35 2 rfl rfl ⟨by omega, by omega⟩ rfl rfl) ?_
     rintro _ w38 ⟨rfl, hO39, hs40⟩
     have hcg1 := chg_rng t.2.1 (T.take i)
     have hcg2 := chg_rng t.2.2 (T.take i)
     rw [htl] at hcg1 hcg2
     have hl2 : (lkp (mput M t.2.1 (iv (chg (T.take i) t.2.1 + 1))) t.2.2).getD (iv 0) = iv (chg (T.take i) t.2.2) := by rw [lkp_mput, if_neg (by omega)]; exact hM.val t.2.2
     refine rhl_done (by kernel_rfl) ?_
     refine run_seq <| run_region <| rl_v rfl rfl rfl (ov_move rfl rfl) <| rl_v rfl rfl rfl (ov_fieldS rfl Try.underlying53 rfl (fo := 1) rfl (by kernel_rfl) rfl) ?_
     refine rl_v rfl rfl rfl (ov_load rfl Try.underlying3 rfl rfl (by exact hO39.cellL 1 rfl (off := 1) rfl)) ?_
     refine rl_v rfl rfl rfl (ov_lookupD rfl Try.underlying92 Try.underlying3 zero_3 rfl rfl (hO39.mapAt 3 rfl) (hM.val t.2.1)) <| rl_v rfl rfl rfl (ov_add rfl rfl rfl (by omega)) ?_
     refine rl_ow rfl (ow_mapput rfl rfl Try.underlying92 Try.underlying3 hO39 3 rfl rfl rfl rfl) ?_
     rintro _ w41 ⟨rfl, hO42, hs43⟩
     refine rl_nil <| run_region <| rl_v rfl rfl rfl (ov_move rfl rfl) <| rl_v rfl rfl rfl (ov_fieldS rfl Try.underlying53 rfl (fo := 2) rfl (by kernel_rfl) rfl) ?_
     refine rl_v rfl rfl rfl (ov_load rfl Try.underlying3 rfl rfl (by exact hO42.cellL 1 rfl (off := 2) rfl)) ?_
     refine rl_v rfl rfl rfl (ov_lookupD rfl Try.underlying92 Try.underlying3 zero_3 rfl rfl (hO42.mapAt 3 rfl) hl2) <| rl_v rfl rfl rfl (ov_sub rfl rfl rfl (by omega)) ?_
     refine rl_ow rfl (ow_mapput rfl rfl Try.underlying92 Try.underlying3 hO42 3 rfl rfl rfl rfl) ?_
     rintro _ w44 ⟨rfl, hO45, hs46⟩
     have hOp := own_put [_, _, _] u hun hO45
     have hsn : T.take (i + 1) = T.take i ++ [t] := by rw [hte]; exact take_snoc (by omega)
     have h3s := rows_step h3 hu hr87
     have hMs := hM.step t hw0
     have hok2 : ∀ x ∈ T.take (i + 1), OkT l x := fun x hx => by
      rw [hsn] at hx
      rcases List.mem_append.1 hx with e | e
      ·exact hok x e
      ·rw [List.mem_singleton.1 e]; exact ⟨hu0, hw0, hr0, hd0⟩
     rw [← hsn] at h3s hMs
     refine rl_nil <| run_inBlock <| run_region <| rl_v rfl rfl rfl (ov_add rfl rfl rfl (by omega)) ?_
     refine rl_v rfl rfl rfl (ov_move rfl rfl) <| rl_nil ?_
     refine Run.use (ih12 (i + 1) _ ?_ ?_) (And.intro (by exact slot_int rfl (by first | omega)) (And.intro rfl (And.intro rfl (And.intro rfl (And.intro rfl (And.intro rfl (And.intro rfl trivial)))))))
     ·first | omega | (dsimp only; omega)
     ·exact ⟨by omega, _, _, _, hok2, h3s, hMs, hOp.tail⟩
  ·have hiT : i = T.length := by omega
   rw [hiT, List.take_length] at hok h3 hM
   have hwd : ∀ t ∈ T, t.2.1 < t.2.2 := fun t ht => (hok t ht).2.1
   have hsm : ∀ r : Int, ∀ a ∈ spn T r, (0 ≤ a.1 ∧ a.1 ≤ 1000000) ∧ (0 ≤ a.2 ∧ a.2 ≤ 1000000) ∧ a.1 < a.2 := fun r a ha => by
    have h := hok _ (spn_mem ha)
    have hv := hV r h.1.1 h.1.2
    unfold Lds.Val at hv
    have h2 : a.1 < a.2 := h.2.1
    have h3 : l.r r ≤ a.1 := h.2.2.1
    have h4 : a.2 ≤ l.d r := h.2.2.2
    omega
   refine run_exit rfl <| run_seq <| run_seq <| run_region <| rl_v rfl rfl rfl (ov_move rfl rfl) <| rl_v rfl rfl rfl (ov_len rfl Try.underlying91 rfl) <| rl_v rfl rfl rfl (ov_move rfl rfl) <| rl_nil <| run_block <| Run.keep [0, 1, 8, 100, 101, 102] (F' := [(0, _), (1, _), (8, _), (100, _), (101, _), (102, _)]) rfl <| run_loop1 (fun (j : Nat) => [(102, .int .i64 (j : Int))]) [0, 1, 8, 100, 101] (fun (j : Nat) (w47 : World) => j ≤ l.n ∧ ∃ ch : Nat → Option Blk, (∀ r : Nat, j ≤ r → r < l.n → SRow (rv r) 89 2 (spn T r).length (spL (spn T r)) (ch r)) ∧ (∀ r : Int, 0 ≤ r → r < j → (spn T r).Pairwise Apart ∧ sumS (spn T r) = l.len r) ∧ Own w.heap.size w w47 (some (vch sb 48 l.n rv) :: some (mch bm M) :: ((List.range l.n).map ch ++ []))) (fun (j : Nat) => l.n - j) (0) ?_ (And.intro (by exact slot_int rfl (by first | omega)) (And.intro rfl (And.intro rfl (And.intro rfl (And.intro rfl (And.intro rfl trivial)))))) ?_
   ·exact ⟨Nat.zero_le _, ch, fun r _ => h3 r, fun r a b => by omega, hO1⟩
   intro j w47 hIw47 ih48
   obtain ⟨hj, ch, h3, hone, hO2⟩ := hIw47
   show Run _ _ _ _ [(102, _), (0, _), (1, _), (8, _), (100, _), (101, _)] _ _
   refine run_seq <| run_region <| rl_v rfl rfl rfl (ov_lss rfl rfl rfl) <| rl_nil <| run_seq ?_
   first | refine run_cond_dec rfl (fun c3 => ?_) (fun c3 => ?_) | refine run_cond rfl (fun c3 => ?_) (fun c3 => ?_)
   ·have hjn : j < l.n := by omega
    have h3j := h3 j (Nat.le_refl _) hjn
    obtain ⟨ra, rc, erv⟩ := Row.val h3j
    rw [erv] at h3j
    obtain ⟨S, hS⟩ : ∃ S, S = spn T j := ⟨_, rfl⟩
    rw [← hS] at h3j erv
    have hsS := hsm j
    rw [← hS] at hsS
    have hsl := spn_len T j
    rw [← hS] at hsl
    have hOt := own_take [_, _] j hjn hO2
    refine run_skip <| run_seq <| run_block <| run_seq <| run_region <| rl_v rfl rfl rfl (ov_move rfl rfl) <| rl_v rfl rfl rfl (ov_index1 rfl Try.underlying91 (by kernel_rfl) rfl rfl ⟨by omega, by omega⟩ rfl) ?_
    refine rl_v rfl rfl rfl (ov_load rfl Try.underlying48 rfl rfl (by exact (hOt.cellI 1 rfl (j : Int) (by omega) (by omega)).trans (congrArg some erv))) ?_
    refine rl_v rfl rfl rfl (ov_assign rfl rfl) <| rl_v rfl rfl rfl (ov_assign rfl rfl) <| rl_nil <| run_seq <| run_region <| rl_v rfl rfl rfl (ov_move rfl rfl) ?_
    refine rl_call callable_49 rfl rfl rfl rfl rfl rfl (sortH_any ra rc S (ch j) _ w w.heap.size _ (fun a ha => by have := hsS a ha; unfold Sm2; omega) (by omega) h3j hOt) (fun e49 w50 hp51 => ?_)
    obtain ⟨rfl, S2, c2, hp, hsrt, hr2, hO3⟩ := hp51
    refine ⟨_, rfl, ?_⟩
    obtain ⟨rb, hrb⟩ := hr2.addr
    have hpl := hp.length_eq
    have hq : ∀ x : Int, 0 ≤ x → x < S.length → (0 ≤ (qS S2 x).1 ∧ (qS S2 x).1 ≤ 1000000) ∧ (0 ≤ (qS S2 x).2 ∧ (qS S2 x).2 ≤ 1000000) ∧ (qS S2 x).1 < (qS S2 x).2 := fun x x0 x1 => hsS _ (qS_perm hp x0 x1)
    have hap := apart_iff (S := S2) (fun a ha => (hsS a (hp.mem_iff.1 ha)).2.2) hsrt
    rw [apart_perm hp, hpl] at hap
    refine rl_nil <| run_seq <| run_region <| rl_v rfl rfl rfl (ov_assign rfl rfl) <| rl_v rfl rfl rfl (ov_assign rfl rfl) <| rl_nil <| run_seq <| run_seq <| run_region <| rl_v rfl rfl rfl (ov_move rfl rfl) <| rl_v rfl rfl rfl (ov_len rfl Try.underlying48 rfl) <| rl_v rfl rfl rfl (ov_move rfl rfl) <| rl_nil <| run_block <| Run.keep [0, 1, 8, 11, 13, 14, 100, 101, 102, 109, 110, 111] (F' := [(0, _), (1, _), (8, _), (11, _), (13, _), (14, _), (100, _), (101, _), (102, _), (109, _), (110, _), (111, _)]) rfl <| run_loop3 (fun (x : Nat) (s : Int) (e : Int) => [(111, .int .i64 (x : Int)), (13, .int .i64 s), (14, .int .i64 e)]) [0, 1, 8, 11, 100, 101, 102, 109, 110] (fun (x : Nat) (s : Int) (e : Int) (w52 : World) => x ≤ S.length ∧ s = sm (fun j => (qS S2 j).2 - (qS S2 j).1) x ∧ (x = 0 → e = 0) ∧ (0 < x → e = (qS S2 ((x : Int) - 1)).2) ∧ (∀ j : Int, 1 ≤ j → j < x → (qS S2 (j - 1)).2 ≤ (qS S2 j).1) ∧ Own w.heap.size w w52 (c2 :: some (vch sb 48 l.n rv) :: some (mch bm M) :: (((List.range l.n).erase j).map ch ++ []))) (fun (x : Nat) (s : Int) (e : Int) => S.length - x) (0) (0) (0) ?_ (And.intro (by exact slot_int rfl (by first | omega)) (And.intro (by exact slot_int rfl (by first | omega)) (And.intro (by exact slot_int rfl (by first | omega)) (And.intro rfl (And.intro rfl (And.intro rfl (And.intro rfl (And.intro rfl (And.intro rfl (And.intro rfl (And.intro rfl (And.intro rfl trivial)))))))))))) ?_
    ·exact ⟨Nat.zero_le _, rfl, fun _ => rfl, fun h => by omega, fun a b c => by omega, hO3⟩
    intro x s e w52 hIw52 ih53
    obtain ⟨hx, hs, he0, he1, hcn, hO4⟩ := hIw52
    show Run _ _ _ _ [(111, _), (13, _), (14, _), (0, _), (1, _), (8, _), (11, _), (100, _), (101, _), (102, _), (109, _), (110, _)] _ _
    refine run_seq <| run_region <| rl_v rfl rfl rfl (ov_lss rfl rfl rfl) <| rl_nil <| run_seq ?_
    first | refine run_cond_dec rfl (fun c4 => ?_) (fun c4 => ?_) | refine run_cond rfl (fun c4 => ?_) (fun c4 => ?_)
    ·have hqx := hq x (by omega) c4
     have hcb := hr2.cellU hO4 0 rfl (hrb (by omega))
     refine run_skip <| run_seq <| run_block <| run_seq <| run_region <| rl_v rfl rfl rfl (ov_index rfl Try.underlying48 (by kernel_rfl) (s := 2) rfl rfl ⟨by omega, by omega⟩ (by exact hrb (by omega))) ?_
     refine rl_v rfl rfl rfl (ov_loadE rfl Try.underlying89 rfl (by kernel_rfl) rfl ⟨by omega, by omega⟩ rfl (hcb)) ?_
     refine rl_ow rfl (ow_alloc [iv 0, iv 0] rfl rfl rfl zero_89 rfl hO4) ?_
     rintro _ w54 ⟨t16, rfl, hO55, hs56⟩
     refine rl_ow rfl (ow_storeW rfl rfl (by kernel_rfl) hO55 0 rfl rfl (by rfl) rfl (by rfl)) ?_
     rintro _ w57 ⟨rfl, hO58, hs59⟩
     have hOq : Own w.heap.size w w57 (some (lch t16 89 (spV (qS S2 x))) :: c2 :: some (vch sb 48 l.n rv) :: some (mch bm M) :: (((List.range l.n).erase j).map ch ++ [])) := hO58
     refine rl_nil <| run_seq <| run_seq <| run_region <| rl_v rfl rfl rfl (ov_indexA1 rfl Try.underlying89 (by kernel_rfl) rfl rfl ⟨by omega, by omega⟩) ?_
     refine rl_v rfl rfl rfl (ov_load rfl Try.underlying3 rfl rfl (by exact hOq.cellL 0 rfl (off := 0) rfl)) ?_
     refine rl_v rfl rfl rfl (ov_move rfl rfl) <| rl_v rfl rfl rfl (ov_lss rfl rfl rfl) <| rl_nil ?_
     first | refine run_cond_dec rfl (fun c5 => ?_) (fun c5 => ?_) | refine run_cond rfl (fun c5 => ?_) (fun c5 => ?_)
     ·refine run_seq <| run_region <| rl_v rfl rfl rfl (ov_assign rfl rfl) <| rl_nil <| run_ret Try.func24 (res1 Try.results24 rfl) ?_
      exact ⟨by rw [decide_eq_false fun h => by have h1 := (h.2.row (by omega) (r := j) (by omega) c3).1; rw [← hS] at h1; have h2 := hap.1 h1; by_cases z : x = 0; (have := he0 z; omega); (have := he1 (by omega); have := h2 x (by omega) c4; omega)], hOq.sub (List.nil_sublist _)⟩
     ·have hm0 : 0 ≤ s := by rw [hs]; exact sm_nonneg fun a a0 a1 => by have := hq a a0 (by omega); omega
      have hm1 : s ≤ x * 1000000 := by rw [hs]; exact sm_bound _ (by omega) fun a a0 a1 => by have := hq a a0 (by omega); omega
      have hms : s + (qS S2 x).2 - (qS S2 x).1 = sm (fun j => (qS S2 j).2 - (qS S2 j).1) ((x + 1 : Nat) : Int) := by
       rw [show ((x + 1 : Nat) : Int) = (x : Int) + 1 by omega, sm_succ _ (by omega), ← hs]; omega
      have hcn2 : ∀ j : Int, 1 ≤ j → j < ((x + 1 : Nat) : Int) → (qS S2 (j - 1)).2 ≤ (qS S2 j).1 := fun j j0 j1 => by
       by_cases z : j = x
       ·rw [z]; have := he1 (by omega); omega
       ·exact hcn j j0 (by omega)
      refine run_skip <| run_quiet mixed (by kernel_rfl) ?_
      refine rq_v rfl rfl rfl (fun _ => ov_move rfl rfl) ?_
      refine rq_v rfl rfl rfl (fun _ => ov_indexA1 rfl Try.underlying89 (by kernel_rfl) rfl rfl ⟨by omega, by omega⟩) ?_
      refine rq_v rfl rfl rfl (fun _ => ov_load rfl Try.underlying3 rfl rfl (by show World.cell? w57 _ = _; first | exact hOq.cellL 0 rfl (off := 1) rfl)) ?_
      refine rq_v rfl rfl rfl (fun _ => ov_add rfl rfl rfl (by omega)) ?_
      refine rq_v rfl rfl rfl (fun _ => ov_indexA1 rfl Try.underlying89 (by kernel_rfl) rfl rfl ⟨by omega, by omega⟩) ?_
      refine rq_v rfl rfl rfl (fun _ => ov_load rfl Try.underlying3 rfl rfl (by show World.cell? w57 _ = _; first | exact hOq.cellL 0 rfl (off := 0) rfl)) ?_
      refine rq_v rfl rfl rfl (fun _ => ov_sub rfl rfl rfl (by omega)) ?_
      refine rq_v rfl rfl rfl (fun _ => ov_indexA1 rfl Try.underlying89 (by kernel_rfl) rfl rfl ⟨by omega, by omega⟩) ?_
      refine rq_v rfl rfl rfl (fun _ => ov_load rfl Try.underlying3 rfl rfl (by show World.cell? w57 _ = _; first | exact hOq.cellL 0 rfl (off := 1) rfl)) ?_
      refine rq_v rfl rfl rfl (fun _ => ov_assign rfl rfl) ?_
      refine rq_v rfl rfl rfl (fun _ => ov_assign rfl rfl) ?_
      refine rq_nil (fun n60 => ?_)
      have hO62 := hOq.drewN n60
      generalize World.drewN w57 n60 = w61 at hO62 ⊢
      refine run_inBlock <| run_region <| rl_v rfl rfl rfl (ov_add rfl rfl rfl (by omega)) ?_
      refine rl_v rfl rfl rfl (ov_move rfl rfl) <| rl_nil ?_
      refine Run.use (ih53 (x + 1) (s + (qS S2 x).2 - (qS S2 x).1) ((qS S2 x).2) _ ?_ ?_) (And.intro (by exact slot_int rfl (by first | omega)) (And.intro (by exact slot_int rfl (by first | omega)) (And.intro (by exact slot_int rfl (by first | omega)) (And.intro rfl (And.intro rfl (And.intro rfl (And.intro rfl (And.intro rfl (And.intro rfl (And.intro rfl (And.intro rfl (And.intro rfl trivial))))))))))))
      ·first | omega | (dsimp only; omega)
      ·exact ⟨by omega, hms, fun h => by omega, fun _ => by rw [show ((x + 1 : Nat) : Int) - 1 = (x : Int) by omega], hcn2, hO62.tail⟩
    ·have hxS : x = S.length := by omega
     rw [hxS] at hs hcn
     rw [← hpl, sumS_sm, sumS_perm hp] at hs
     refine run_exit rfl <| run_seq <| run_region <| rl_v rfl rfl rfl (ov_move rfl rfl) <| rl_v rfl rfl rfl (ov_move rfl rfl) <| rl_v rfl rfl rfl (ov_move rfl rfl) <| rl_v rfl rfl rfl (ov_index rfl Try.underlying27 (by kernel_rfl) (s := 4) rfl rfl ⟨by omega, by omega⟩ (by exact hla (by omega))) ?_
     refine rl_v rfl rfl rfl (ov_fieldS rfl Try.underlying84 rfl (fo := 2) rfl (by kernel_rfl) rfl) ?_
     refine rl_v rfl rfl rfl (ov_load rfl Try.underlying3 rfl rfl (by exact hlr _ hO4.below (j : Int) (by omega) (by omega) 2 (by decide))) ?_
     refine rl_v rfl rfl rfl (ov_neq rfl rfl rfl) <| rl_nil ?_
     first | refine run_cond_dec rfl (fun c6 => ?_) (fun c6 => ?_) | refine run_cond rfl (fun c6 => ?_) (fun c6 => ?_)
     ·refine run_seq <| run_region <| rl_v rfl rfl rfl (ov_assign rfl rfl) <| rl_nil <| run_ret Try.func24 (res1 Try.results24 rfl) ?_
      exact ⟨by rw [decide_eq_false fun h => by have h1 := (h.2.row (by omega) (r := j) (by omega) c3).2; rw [← hS, ← hs] at h1; exact c6 h1], hO4.sub (List.nil_sublist _)⟩
     ·have c6' : s = l.len j := Classical.not_not.1 c6
      have hOp := own_put [_, _] j hjn hO4
      have hone2 : ∀ r : Int, 0 ≤ r → r < ((j + 1 : Nat) : Int) → (spn T r).Pairwise Apart ∧ sumS (spn T r) = l.len r := fun r r0 r1 => by
       by_cases z : r = j
       ·rw [z, ← hS]; exact ⟨hap.2 hcn, by rw [← hs]; exact c6'⟩
       ·exact hone r r0 (by omega)
      refine run_skip <| run_inBlock <| run_region <| rl_v rfl rfl rfl (ov_add rfl rfl rfl (by omega)) ?_
      refine rl_v rfl rfl rfl (ov_move rfl rfl) <| rl_nil ?_
      refine Run.use (ih48 (j + 1) _ ?_ ?_) (And.intro (by exact slot_int rfl (by first | omega)) (And.intro rfl (And.intro rfl (And.intro rfl (And.intro rfl (And.intro rfl trivial))))))
      ·first | omega | (dsimp only; omega)
      ·exact ⟨by omega, _, fun r ra rb => by show SRow _ _ _ _ _ (if r = j then c2 else ch r); rw [if_neg (by omega)]; exact h3 r (by omega) rb, hone2, hOp⟩
   ·have hjl : j = l.n := by omega
    rw [hjl] at hone
    have hMl := hM.le
    have hOr := hO2.perm (List.Perm.swap _ _ _)
    refine run_exit rfl <| run_seq <| run_region <| rl_v rfl rfl rfl (ov_assign rfl rfl) <| rl_nil <| run_seq <| run_seq <| run_region <| rl_v rfl rfl rfl (ov_move rfl rfl) ?_
    refine rl_call callable_51 rfl rfl rfl rfl rfl rfl (sorted7_any bm w.heap.size w _ M _ hM.nd (by omega) hOr) (fun e63 w64 hp65 => ?_)
    obtain ⟨va, vc, N, X, cx, rfl, hv, hNl, hri, hmem, hO5⟩ := hp65
    refine ⟨_, rfl, ?_⟩
    obtain ⟨vb, hva⟩ := hv.addr
    have hmk : ∀ x : Int, (∃ j : Int, (0 ≤ j ∧ j < N) ∧ X j = x) ↔ ∃ t ∈ T, x = t.2.1 ∨ x = t.2.2 := fun x => (hmem x).trans (hM.key x)
    refine rl_v rfl rfl rfl (ov_len rfl Try.underlying47 rfl) <| rl_v rfl rfl rfl (ov_move rfl rfl) <| rl_nil <| run_block <| Run.keep [1, 8, 17, 138, 139, 140] (F' := [(1, _), (8, _), (17, _), (138, _), (139, _), (140, _)]) rfl <| run_loop2 (fun (x : Nat) (s : Int) => [(140, .int .i64 (x : Int)), (17, .int .i64 s)]) [1, 8, 138, 139] (fun (x : Nat) (s : Int) (w66 : World) => x ≤ N ∧ s = sm (fun j => chg T (X j)) x ∧ (∀ j : Int, 0 ≤ j → j < x → sL (fun u => ind (u.2.1 ≤ X j ∧ X j < u.2.2)) T ≤ k) ∧ Own w.heap.size w w66 (cx :: some (mch bm M) :: some (vch sb 48 l.n rv) :: ((List.range l.n).map ch ++ []))) (fun (x : Nat) (s : Int) => N - x) (0) (0) ?_ (And.intro (by exact slot_int rfl (by first | omega)) (And.intro (by exact slot_int rfl (by first | omega)) (And.intro rfl (And.intro rfl (And.intro rfl (And.intro rfl trivial)))))) ?_
    ·exact ⟨Nat.zero_le _, rfl, fun a b c => by omega, hO5⟩
    intro x s w66 hIw66 ih67
    obtain ⟨hx, hs, hle, hO6⟩ := hIw66
    show Run _ _ _ _ [(140, _), (17, _), (1, _), (8, _), (138, _), (139, _)] _ _
    refine run_seq <| run_region <| rl_v rfl rfl rfl (ov_lss rfl rfl rfl) <| rl_nil <| run_seq ?_
    first | refine run_cond_dec rfl (fun c7 => ?_) (fun c7 => ?_) | refine run_cond rfl (fun c7 => ?_) (fun c7 => ?_)
    ·have hcg := chg_rng (X x) T
     have hsw := sweep hri hmk hwd (k := x) (by omega) c7
     rw [sm_succ _ (by omega), ← hs] at hsw
     have h01 := sL_ind01 (fun u => u.2.1 ≤ X x ∧ X x < u.2.2) T
     refine run_skip <| run_seq <| run_block <| run_seq <| run_region <| rl_v rfl rfl rfl (ov_index1 rfl Try.underlying47 (by kernel_rfl) rfl rfl ⟨by omega, by omega⟩ (by exact hva (by omega))) ?_
     refine rl_v rfl rfl rfl (ov_load rfl Try.underlying3 rfl rfl (by exact hv.cellU hO6 0 rfl (hva (by omega)) (i := x) (by omega) (by omega))) ?_
     refine rl_v rfl rfl rfl (ov_assign rfl rfl) <| rl_nil <| run_seq <| run_region <| rl_v rfl rfl rfl (ov_move rfl rfl) <| rl_v rfl rfl rfl (ov_move rfl rfl) <| rl_v rfl rfl rfl (ov_move rfl rfl) <| rl_v rfl rfl rfl (ov_lookupD rfl Try.underlying92 Try.underlying3 zero_3 rfl rfl (hO6.mapAt 1 rfl) (hM.val (X x))) <| rl_v rfl rfl rfl (ov_add rfl rfl rfl (by omega)) ?_
     refine rl_v rfl rfl rfl (ov_assign rfl rfl) <| rl_nil <| run_seq <| run_region <| rl_v rfl rfl rfl (ov_move rfl rfl) <| rl_v rfl rfl rfl (ov_move rfl rfl) <| rl_v rfl rfl rfl (ov_gtr rfl rfl rfl) <| rl_nil ?_
     first | refine run_cond_dec rfl (fun c8 => ?_) (fun c8 => ?_) | refine run_cond rfl (fun c8 => ?_) (fun c8 => ?_)
     ·refine run_seq <| run_region <| rl_v rfl rfl rfl (ov_assign rfl rfl) <| rl_nil <| run_ret Try.func24 (res1 Try.results24 rfl) ?_
      exact ⟨by rw [decide_eq_false fun h => by have h1 := ((planL_iff (by omega)).2 h.2).kil (X x) ((hmk _).1 ⟨x, ⟨by omega, c7⟩, rfl⟩); omega], hO6.sub (List.nil_sublist _)⟩
     ·have hle2 : ∀ j : Int, 0 ≤ j → j < ((x + 1 : Nat) : Int) → sL (fun u => ind (u.2.1 ≤ X j ∧ X j < u.2.2)) T ≤ k := fun j j0 j1 => by
       by_cases z : j = x
       ·rw [z]; omega
       ·exact hle j j0 (by omega)
      refine run_skip <| run_inBlock <| run_region <| rl_v rfl rfl rfl (ov_add rfl rfl rfl (by omega)) ?_
      refine rl_v rfl rfl rfl (ov_move rfl rfl) <| rl_nil ?_
      refine Run.use (ih67 (x + 1) (s + chg T (X x)) _ ?_ ?_) (And.intro (by exact slot_int rfl (by first | omega)) (And.intro (by exact slot_int rfl (by first | omega)) (And.intro rfl (And.intro rfl (And.intro rfl (And.intro rfl trivial))))))
      ·first | omega | (dsimp only; omega)
      ·exact ⟨by omega, by rw [show ((x + 1 : Nat) : Int) = (x : Int) + 1 by omega, sm_succ _ (by omega), ← hs], hle2, hO6⟩
    ·have hxN : x = N := by omega
     rw [hxN] at hle
     have hP : PlanOk l k T := (planL_iff (by omega)).1 ⟨hok, hone, fun x hx => by
      obtain ⟨j, hj, e⟩ := (hmk x).2 hx
      rw [← e]; exact hle j hj.1 hj.2⟩
     refine run_exit rfl <| run_seq <| run_region <| rl_v rfl rfl rfl (ov_assign rfl rfl) <| rl_nil <| run_ret Try.func24 (res1 Try.results24 rfl) ?_
     exact ⟨by rw [decide_eq_true ⟨c0', hP⟩], hO6.sub (List.nil_sublist _)⟩
end Go.Proofs.Ytbepolognfdkeaa
