/- NetJudges: the walk. -/
import Derived.Test.YtiambddcpflkhaaCanG
import Derived.Test.YtiambddcpflkhaaNetW
set_option maxRecDepth 100000
namespace Go.Proofs.Ytiambddcpflkhaa
open Go.RowKit Go.Proofs

theorem OTab.take {B : Nat} {w0 w : World} {v : Value} {T1 T2 : TypeId} {n : Nat} {L : Int → Nat} {F : Int → Int → Value} {H R : List (Option Blk)} (h : OTab v T1 T2 n L F H) (ho : Own B w0 w (H ++ R)) (i : Nat) (hi : i < n) :
    ∃ (c : Option Blk) (rv : Int → Value) (ch : Nat → Option Blk), IRow v T1 n rv c ∧ (∀ r : Nat, r < n → IRow (rv r) T2 (L r) (F r) (ch r)) ∧ Own B w0 w (ch i :: c :: (((List.range n).erase i).map ch ++ R)) := by
  obtain ⟨c, rv, ch, rfl, h2, h3⟩ := h
  refine ⟨c, rv, ch, h2, h3, ho.perm ?_⟩
  have p := (List.perm_cons_erase (List.mem_range.2 hi)).map ch
  exact ((p.append_right R).cons c).trans (List.Perm.swap _ _ _)
theorem OTab.put {B : Nat} {w0 w : World} {v x : Value} {T1 T2 : TypeId} {n m : Nat} {L : Int → Nat} {F : Int → Int → Value} {G : Int → Value} {R : List (Option Blk)} {c cr : Option Blk} {rv : Int → Value} {ch : Nat → Option Blk} (i : Nat) (hi : i < n)
    (hv : IRow v T1 n (upd rv i x) c) (h3 : ∀ r : Nat, r < n → IRow (rv r) T2 (L r) (F r) (ch r)) (hx : IRow x T2 m G cr) (ho : Own B w0 w (cr :: c :: (((List.range n).erase i).map ch ++ R))) :
    ∃ H, OTab v T1 T2 n (upd L i m) (upd F i G) H ∧ Own B w0 w (H ++ R) := by
  refine ⟨_, ⟨c, _, fun r => if r = i then cr else ch r, rfl, hv, fun r hr => ?_⟩, ho.perm ?_⟩
  · show IRow _ _ _ _ (if r = i then cr else ch r)
    by_cases e : r = i
    · subst e; rw [upd_same, upd_same, upd_same, if_pos rfl]; exact hx
    · rw [upd_ne _ _ (by omega), upd_ne _ _ (by omega), upd_ne _ _ (by omega), if_neg e]; exact h3 r hr
  · have p := (List.perm_cons_erase (List.mem_range.2 hi)).map (fun r => if r = i then cr else ch r)
    have e : ((List.range n).erase i).map (fun r => if r = i then cr else ch r) = ((List.range n).erase i).map ch := List.map_congr_left fun r hr => by
      have : r ≠ i := fun e => by rw [e] at hr; exact (List.Nodup.not_mem_erase List.nodup_range) hr
      exact if_neg this
    simp only [List.map_cons, if_true, e] at p
    exact (List.Perm.swap _ _ _).trans ((p.symm.append_right R).cons c)
theorem OTab.cutT {B : Nat} {w0 w : World} {ao : Option Addr} {T1 T2 : TypeId} {m n cap : Nat} {L : Int → Nat} {F : Int → Int → Value} {H : List (Option Blk)} (h : OTab (.slice ao m cap) T1 T2 m L F H) (ho : Own B w0 w H) (hn : n ≤ m) :
    ∃ H', OTab (.slice ao n cap) T1 T2 n L F H' ∧ Own B w0 w H' ∧ n ≤ cap := by
  obtain ⟨c, rv, ch, rfl, h2, h3⟩ := h
  have hcap := h2.cap
  exact ⟨_, ⟨c, rv, ch, rfl, h2.cut hn, fun r hr => h3 r (by omega)⟩, ho.sub (.cons_cons _ ((List.range_sublist.2 hn).map ch)), by omega⟩

set_option maxHeartbeats 4000000 in
theorem netJudges_any (ao bo : Option Addr) (G Gc G2 Gc2 : Nat) (L L2 : Int → Nat) (D0 C0 : Int → Int → Int) (w : World)
    (h : ITab w.heap.size w ao G L (fun r c => .int .i64 (D0 r c))) (h2 : ITabC w.heap.size w bo G2 L2 (fun r c => .int .i64 (C0 r c))) :
    Calls Try.prog 8 #[.slice ao G Gc, .slice bo G2 Gc2] w fun e w' => e = .returned (.bool true) ∧ Below w.heap.size w w' := by
  refine calls_of_run (F := [(0, _), (1, _)]) Try.func8 rfl Try.ntmps8 rfl rfl ?_
  have hO0 := Own.init w
  refine run_seq ?_
  refine run_region ?_
  refine rl_v rfl rfl rfl (ov_assign rfl rfl) ?_
  refine rl_nil ?_
  refine run_seq ?_
  refine run_region ?_
  refine rl_v rfl rfl rfl (ov_move rfl rfl) ?_
  refine rl_call callable_13 rfl rfl rfl rfl rfl rfl (tame_any ao G Gc 7 20 L D0 _ (by omega) (by omega) (by omega) h) (fun e1 w2 hp3 => ?_)
  obtain ⟨v, n, D, H, rfl, hT, hOt, hn1, hn8, hDr, hdia⟩ := hp3
  refine ⟨_, rfl, ?_⟩
  obtain ⟨to, tc, rfl⟩ := hT.val
  have hv : Valid n D := ⟨hn1, by omega, fun r c => (hDr r c).1, fun r c => by have := (hDr r c).2; omega, hdia⟩
  have hle := hv.le
  have hOA := hOt
  have hIT := hT.reads (H' := []) (by simpa using hOt)
  have h2' := h2.later hOt.below
  have hI0 := Own.init w2
  refine rl_v rfl rfl rfl (ov_assign rfl rfl) ?_
  refine rl_nil ?_
  refine run_seq ?_
  refine run_region ?_
  refine rl_v rfl rfl rfl (ov_move rfl rfl) ?_
  refine rl_call callable_39 rfl rfl rfl rfl rfl rfl (table_any bo G2 Gc2 8 L2 C0 _ (by omega) (h2'.later hI0.below)) (fun e4 w5 hp6 => ?_)
  obtain ⟨v6, H6, rfl, hT6, hOq6⟩ := hp6
  refine ⟨_, rfl, ?_⟩
  have hO7 := hI0.join hOq6
  refine rl_v rfl rfl rfl (ov_assign rfl rfl) ?_
  refine rl_nil ?_
  refine run_seq ?_
  refine run_seq ?_
  refine run_region ?_
  refine rl_v rfl rfl rfl (ov_assign rfl rfl) ?_
  refine rl_nil ?_
  refine run_block ?_
  refine Run.keep [1, 5, 6, 7] (F' := [(1, _), (5, _), (6, _), (7, _)]) rfl ?_
  refine run_loop6 (fun (k : Int) (xv : Value) (m : Nat) (Lx : Int → Nat) (X : Int → Int → Int) (Hx : List (Option Blk)) => [(7, .int .i64 k), (6, xv)]) [1, 5] (fun (k : Int) (xv : Value) (m : Nat) (Lx : Int → Nat) (X : Int → Int → Int) (Hx : List (Option Blk)) (w8 : World) => 0 ≤ k ∧ k ≤ 2 ∧ m ≤ 1000 ∧ OTab xv 23 2 m Lx (fun r c => .int .i64 (X r c)) Hx ∧ Own w2.heap.size w2 w8 Hx) (fun (k : Int) (xv : Value) (m : Nat) (Lx : Int → Nat) (X : Int → Int → Int) (Hx : List (Option Blk)) => (2 - k).toNat) (0) (v6) (min G2 8) (fun r => min (L2 r) 8) (C0) (H6) ?_ (And.intro (by first | with_reducible rfl | exact slot_int rfl (by first | omega) | rfl) (And.intro rfl (And.intro rfl (And.intro rfl trivial)))) ?_
  · exact ⟨by omega, by omega, by omega, hT6, by simpa using hO7⟩
  intro k xv m Lx X Hx w8 hIw8 ih9
  obtain ⟨hk0, hk1, hm, hTx, hO⟩ := hIw8
  show Run _ _ _ _ [(7, _), (6, _), (1, _), (5, _)] _ _
  refine run_seq ?_
  refine run_seq ?_
  refine run_region ?_
  refine rl_v rfl rfl rfl (ov_move rfl rfl) ?_
  refine rl_v rfl rfl rfl (ov_lss rfl rfl rfl) ?_
  refine rl_nil ?_
  first | refine run_cond_dec rfl (fun h3 => ?_) (fun h3 => ?_) | refine run_cond rfl (fun h3 => ?_) (fun h3 => ?_)
  · obtain ⟨xo, xc, rfl⟩ := hTx.val
    refine run_skip ?_
    refine run_seq ?_
    refine run_block ?_
    refine run_seq ?_
    refine run_seq ?_
    refine run_region ?_
    refine rl_v rfl rfl rfl (ov_move rfl rfl) ?_
    refine rl_v rfl rfl rfl (ov_move rfl rfl) ?_
    refine rl_call callable_40 rfl rfl rfl rfl rfl rfl (isCancelling_any to xo n tc m xc Lx D X _ hv (by omega) (hIT.later hO.below) (hTx.reads (H' := []) (by rw [List.append_nil]; exact hO))) (fun e10 w11 hp12 => ?_)
    obtain ⟨⟨b1, rfl, hb1⟩, hb3⟩ := hp12
    refine ⟨_, rfl, ?_⟩
    have hO13 := hO.past hb3
    refine rl_v rfl rfl rfl (ov_move rfl rfl) ?_
    refine rl_v rfl rfl rfl (ov_move rfl rfl) ?_
    refine rl_call callable_41 rfl rfl rfl rfl rfl rfl (cancelling_any to xo n tc m xc Lx D X _ hv (by omega) (hIT.later hO13.below) (hTx.reads (H' := []) (by rw [List.append_nil]; exact hO13))) (fun e14 w15 hp16 => ?_)
    obtain ⟨⟨b2, rfl, hb2⟩, hb4⟩ := hp16
    refine ⟨_, rfl, ?_⟩
    have hO17 := hO13.past hb4
    refine rl_v rfl rfl rfl (ov_neqB rfl Try.underlying4 rfl rfl) ?_
    refine rl_nil ?_
    first | refine run_cond_dec rfl (fun h5 => ?_) (fun h5 => ?_) | refine run_cond rfl (fun h5 => ?_) (fun h5 => ?_)
    · exfalso; exact h5 (Bool.eq_iff_iff.2 (hb1.trans hb2.symm))
    · refine run_skip ?_
      refine run_seq ?_
      refine run_region ?_
      refine rl_v rfl rfl rfl (ov_move rfl rfl) ?_
      refine rl_call callable_13 rfl rfl rfl rfl rfl rfl (tame_any bo G2 Gc2 7 20 L2 C0 _ (by omega) (by omega) (by omega) (h2'.tab.later hO17.below)) (fun e18 w19 hp20 => ?_)
      obtain ⟨v2, m2, X2, H2, rfl, hT2, hOq2, hm21, hm22, hX2, hX2d⟩ := hp20
      refine ⟨_, rfl, ?_⟩
      have hO21 := hO17.join hOq2
      have hOx := hO21.sub (List.sublist_append_left H2 Hx)
      refine rl_v rfl rfl rfl (ov_assign rfl rfl) ?_
      refine rl_nil ?_
      refine run_seq ?_
      refine run_block ?_
      refine Run.keep [1, 5, 6, 7] (F' := [(1, _), (5, _), (6, _), (7, _)]) rfl ?_
      refine run_loop4 (fun (xv : Value) (m : Nat) (Lx : Int → Nat) (Hx : List (Option Blk)) => [(6, xv)]) [1, 5, 7] (fun (xv : Value) (m : Nat) (Lx : Int → Nat) (Hx : List (Option Blk)) (w22 : World) => m ≤ 7 ∧ (∀ r, Lx r ≤ 7) ∧ OTab xv 23 2 m Lx (fun r c => .int .i64 (X2 r c)) Hx ∧ Own w2.heap.size w2 w22 Hx) (fun (xv : Value) (m : Nat) (Lx : Int → Nat) (Hx : List (Option Blk)) => n - m) (v2) (m2) (fun _ => m2) (H2) ?_ (And.intro rfl (And.intro rfl (And.intro rfl (And.intro rfl trivial)))) ?_
      · exact ⟨by omega, fun _ => (by omega : m2 ≤ 7), hT2, hOx⟩
      intro xv m Lx Hx w22 hIw22 ih23
      obtain ⟨hm, hL7, hTx, hO⟩ := hIw22
      show Run _ _ _ _ [(6, _), (1, _), (5, _), (7, _)] _ _
      obtain ⟨xo, xc, rfl⟩ := hTx.val
      refine run_seq ?_
      refine run_seq ?_
      refine run_region ?_
      refine rl_v rfl rfl rfl (ov_move rfl rfl) ?_
      refine rl_v rfl rfl rfl (ov_len rfl Try.underlying22 rfl) ?_
      refine rl_v rfl rfl rfl (ov_move rfl rfl) ?_
      refine rl_v rfl rfl rfl (ov_len rfl Try.underlying22 rfl) ?_
      refine rl_v rfl rfl rfl (ov_lss rfl rfl rfl) ?_
      refine rl_nil ?_
      first | refine run_cond_dec rfl (fun h6 => ?_) (fun h6 => ?_) | refine run_cond rfl (fun h6 => ?_) (fun h6 => ?_)
      · obtain ⟨c0, rv, ch, rfl, hvt, h3t⟩ := hTx
        refine run_skip ?_
        refine run_block ?_
        refine run_region ?_
        refine rl_v rfl rfl rfl (ov_move rfl rfl) ?_
        refine rl_appV rfl rfl rfl rfl rfl rfl rfl rfl Try.underlying22 info_23 rfl hO 0 hvt rfl rfl rfl rfl ⟨by omega, by omega⟩ (fun v7 c7 w24 hO25 hv7 hs26 => ?_)
        obtain ⟨H', hT', hO'⟩ := OTab.snoc (L := upd Lx m 0) (F := fun r c => .int .i64 (X2 r c)) (H0 := []) (fun r hr => by rw [upd_ne _ _ (by omega)]; exact h3t r hr) (IRow.nil 2 (fun c => .int .i64 (X2 m c))) hv7 (by simpa using hO25.nil_cons) (upd_same _ _ _) (fun i _ _ => rfl)
        refine rl_v rfl rfl rfl (ov_assign rfl rfl) ?_
        refine rl_nil ?_
        refine run_inBlock ?_
        refine Run.use (ih23 (v7) (m + 1) (upd Lx m 0) (H') _ ?_ ?_) (And.intro rfl (And.intro rfl (And.intro rfl (And.intro rfl trivial))))
        · first | omega | (dsimp only; omega)
        · exact ⟨by omega, fun r => by unfold upd; split; omega; exact hL7 r, hT', by simpa using hO'⟩
      · have hnm : n ≤ m := by omega
        obtain ⟨Hc, hTc, hOc, hncap⟩ := hTx.cutT hO hnm
        refine run_exit rfl ?_
        refine run_seq ?_
        refine run_region ?_
        refine rl_v rfl rfl rfl (ov_move rfl rfl) ?_
        refine rl_v rfl rfl rfl (ov_move rfl rfl) ?_
        refine rl_v rfl rfl rfl (ov_len rfl Try.underlying22 rfl) ?_
        refine rl_v rfl rfl rfl (ov_sliceH (n) (s := 1) rfl Try.underlying22 (by kernel_rfl) rfl rfl (by first | rfl | omega) (by omega)) ?_
        refine rl_v rfl rfl rfl (ov_assign rfl rfl) ?_
        refine rl_nil ?_
        refine run_seq ?_
        refine run_region ?_
        refine rl_v rfl rfl rfl (ov_assign rfl rfl) ?_
        refine rl_nil ?_
        refine run_block ?_
        refine Run.keep [1, 5, 6, 7, 8] (F' := [(1, _), (5, _), (6, _), (7, _), (8, _)]) rfl ?_
        refine run_loop5 (fun (i : Int) (j : Nat) (Lx : Int → Nat) (X : Int → Int → Int) (Hx : List (Option Blk)) => [(8, .int .i64 i)]) [1, 5, 6, 7] (fun (i : Int) (j : Nat) (Lx : Int → Nat) (X : Int → Int → Int) (Hx : List (Option Blk)) (w27 : World) => i = j ∧ j ≤ n ∧ (∀ r, Lx r ≤ 7) ∧ OTab (.slice xo n xc) 23 2 n Lx (fun r c => .int .i64 (X r c)) Hx ∧ Own w2.heap.size w2 w27 Hx) (fun (i : Int) (j : Nat) (Lx : Int → Nat) (X : Int → Int → Int) (Hx : List (Option Blk)) => n - j) (0) (0) (Lx) (X2) (Hc) ?_ (And.intro (by first | with_reducible rfl | exact slot_int rfl (by first | omega) | rfl) (And.intro rfl (And.intro rfl (And.intro rfl (And.intro rfl trivial))))) ?_
        · exact ⟨rfl, by omega, hL7, hTc, hOc⟩
        intro i j Lx X Hx w27 hIw27 ih28
        obtain ⟨hij, hjn, hL7, hTx, hO⟩ := hIw27
        show Run _ _ _ _ [(8, _), (1, _), (5, _), (6, _), (7, _)] _ _
        refine run_seq ?_
        refine run_seq ?_
        refine run_region ?_
        refine rl_v rfl rfl rfl (ov_move rfl rfl) ?_
        refine rl_v rfl rfl rfl (ov_move rfl rfl) ?_
        refine rl_v rfl rfl rfl (ov_len rfl Try.underlying22 rfl) ?_
        refine rl_v rfl rfl rfl (ov_lss rfl rfl rfl) ?_
        refine rl_nil ?_
        first | refine run_cond_dec rfl (fun h7 => ?_) (fun h7 => ?_) | refine run_cond rfl (fun h7 => ?_) (fun h7 => ?_)
        · obtain ⟨c0, rv, ch, hvt, h3t, hOj⟩ := hTx.take (R := []) (by rw [List.append_nil]; exact hO) j (by omega)
          obtain ⟨ob, Gv0, rfl, hq1, hq2, rfl, hGv0⟩ := hvt.asV hn1
          refine run_skip ?_
          refine run_seq ?_
          refine run_block ?_
          refine run_seq ?_
          refine run_block ?_
          refine Run.keep [1, 5, 6, 7, 8] (F' := [(1, _), (5, _), (6, _), (7, _), (8, _)]) rfl ?_
          refine run_loop5 (fun (xi : Value) (mi : Nat) (g : Int → Int) (cr : Option Blk) (Gv : Int → Value) => []) [1, 5, 6, 7, 8] (fun (xi : Value) (mi : Nat) (g : Int → Int) (cr : Option Blk) (Gv : Int → Value) (w29 : World) => mi ≤ 20 ∧ IRow xi 2 mi (fun c => .int .i64 (g c)) cr ∧ Gv j = xi ∧ (∀ r : Int, r ≠ j → Gv r = Gv0 r) ∧ Own w2.heap.size w2 w29 (cr :: some (vch ob 23 xc Gv) :: (((List.range n).erase j).map ch ++ []))) (fun (xi : Value) (mi : Nat) (g : Int → Int) (cr : Option Blk) (Gv : Int → Value) => n - mi) (rv j) (Lx j) (X j) (ch j) (Gv0) ?_ (And.intro rfl (And.intro rfl (And.intro rfl (And.intro rfl (And.intro rfl trivial))))) ?_
          · exact ⟨by have := hL7 j; omega, h3t j (by omega), hGv0 j (by omega) (by omega), fun _ _ => rfl, hOj⟩
          intro xi mi g cr Gv w29 hIw29 ih30
          obtain ⟨hmi, hr, hGi, hGo, hO⟩ := hIw29
          show Run _ _ _ _ [(1, _), (5, _), (6, _), (7, _), (8, _)] _ _
          obtain ⟨io, ic, rfl⟩ := hr.val
          have hGi' : Gv i = .slice io mi ic := by rw [hij]; exact hGi
          refine run_seq ?_
          refine run_seq ?_
          refine run_region ?_
          refine rl_v rfl rfl rfl (ov_move rfl rfl) ?_
          refine rl_v rfl rfl rfl (ov_move rfl rfl) ?_
          refine rl_v rfl rfl rfl (ov_index1 rfl Try.underlying22 (by kernel_rfl) rfl rfl ⟨by omega, by omega⟩ rfl) ?_
          refine rl_v rfl rfl rfl (ov_load rfl Try.underlying23 rfl rfl (by first | exact (hO.cellI 1 rfl i (by omega) (by omega)).trans (congrArg some hGi'))) ?_
          refine rl_v rfl rfl rfl (ov_len rfl Try.underlying23 rfl) ?_
          refine rl_v rfl rfl rfl (ov_move rfl rfl) ?_
          refine rl_v rfl rfl rfl (ov_len rfl Try.underlying22 rfl) ?_
          refine rl_v rfl rfl rfl (ov_lss rfl rfl rfl) ?_
          refine rl_nil ?_
          first | refine run_cond_dec rfl (fun h8 => ?_) (fun h8 => ?_) | refine run_cond rfl (fun h8 => ?_) (fun h8 => ?_)
          · refine run_skip ?_
            refine run_block ?_
            refine run_region ?_
            refine rl_v rfl rfl rfl (ov_move rfl rfl) ?_
            refine rl_v rfl rfl rfl (ov_move rfl rfl) ?_
            refine rl_v rfl rfl rfl (ov_move rfl rfl) ?_
            refine rl_v rfl rfl rfl (ov_move rfl rfl) ?_
            refine rl_v rfl rfl rfl (ov_index1 rfl Try.underlying22 (by kernel_rfl) rfl rfl ⟨by omega, by omega⟩ rfl) ?_
            refine rl_v rfl rfl rfl (ov_load rfl Try.underlying23 rfl rfl (by first | exact (hO.cellI 1 rfl i (by omega) (by omega)).trans (congrArg some hGi'))) ?_
            refine rl_appI rfl rfl rfl rfl rfl rfl rfl rfl Try.underlying23 info_2 rfl hO 0 hr rfl rfl rfl ⟨by omega, by omega⟩ (fun v5 c5 w31 hO32 hr5 hs33 => ?_)
            obtain ⟨io5, ic5, rfl⟩ := hr5.val
            refine rl_v rfl rfl rfl (ov_index1 rfl Try.underlying22 (by kernel_rfl) rfl rfl ⟨by omega, by omega⟩ rfl) ?_
            refine rl_ow rfl (ow_store rfl rfl (by kernel_rfl) hO32 1 rfl rfl ⟨by omega, by omega⟩ rfl rfl) ?_
            rintro _ w34 ⟨rfl, hO35, hs36⟩
            refine rl_nil ?_
            refine run_inBlock ?_
            refine Run.use (ih30 (.slice io5 (mi + 1) ic5) (mi + 1) (upd g mi 0) (c5) (upd Gv i (.slice io5 (mi + 1) ic5)) _ ?_ ?_) (And.intro rfl (And.intro rfl (And.intro rfl (And.intro rfl (And.intro rfl trivial)))))
            · first | omega | (dsimp only; omega)
            · exact ⟨by omega, hr5, by rw [hij, upd_same], fun r hr' => by rw [hij, upd_ne _ _ hr']; exact hGo r hr', hO35⟩
          · have hcap := hr.cap
            have hr' := hr.cut (show n ≤ mi by omega)
            refine run_exit rfl ?_
            refine run_seq ?_
            refine run_region ?_
            refine rl_v rfl rfl rfl (ov_move rfl rfl) ?_
            refine rl_v rfl rfl rfl (ov_move rfl rfl) ?_
            refine rl_v rfl rfl rfl (ov_move rfl rfl) ?_
            refine rl_v rfl rfl rfl (ov_move rfl rfl) ?_
            refine rl_v rfl rfl rfl (ov_index1 rfl Try.underlying22 (by kernel_rfl) rfl rfl ⟨by omega, by omega⟩ rfl) ?_
            refine rl_v rfl rfl rfl (ov_load rfl Try.underlying23 rfl rfl (by first | exact (hO.cellI 1 rfl i (by omega) (by omega)).trans (congrArg some hGi'))) ?_
            refine rl_v rfl rfl rfl (ov_move rfl rfl) ?_
            refine rl_v rfl rfl rfl (ov_len rfl Try.underlying22 rfl) ?_
            refine rl_v rfl rfl rfl (ov_sliceH (n) (s := 1) rfl Try.underlying23 (by kernel_rfl) rfl rfl (by first | rfl | omega) (by omega)) ?_
            refine rl_v rfl rfl rfl (ov_index1 rfl Try.underlying22 (by kernel_rfl) rfl rfl ⟨by omega, by omega⟩ rfl) ?_
            refine rl_ow rfl (ow_store rfl rfl (by kernel_rfl) hO 1 rfl rfl ⟨by omega, by omega⟩ rfl rfl) ?_
            rintro _ w37 ⟨rfl, hO38, hs39⟩
            obtain ⟨rb, Gr, rfl, hq3, hq4, rfl, hGr⟩ := hr'.asV hn1
            obtain ⟨A, C, RB, RO, gb, go, hga, hrow, hra, hel, _⟩ := hIT.open
            refine rl_nil ?_
            refine run_seq ?_
            refine run_region ?_
            refine rl_v rfl rfl rfl (ov_assign rfl rfl) ?_
            refine rl_nil ?_
            refine run_block ?_
            refine Run.keep [1, 5, 6, 7, 8, 9] (F' := [(1, _), (5, _), (6, _), (7, _), (8, _), (9, _)]) rfl ?_
            refine run_loop3 (fun (j2 : Int) (Gr : Int → Value) (g2 : Int → Int) => [(9, .int .i64 j2)]) [1, 5, 6, 7, 8] (fun (j2 : Int) (Gr : Int → Value) (g2 : Int → Int) (w40 : World) => 0 ≤ j2 ∧ j2 ≤ n ∧ (∀ c : Int, 0 ≤ c → c < n → Gr c = .int .i64 (g2 c)) ∧ Own w2.heap.size w2 w40 (some (vch rb 2 ic Gr) :: some (vch ob 23 xc (upd Gv i (.slice (some ⟨rb, 0, none⟩) n ic))) :: (((List.range n).erase j).map ch ++ []))) (fun (j2 : Int) (Gr : Int → Value) (g2 : Int → Int) => ((n : Int) - j2).toNat) (0) (Gr) (g) ?_ (And.intro (by first | with_reducible rfl | exact slot_int rfl (by first | omega) | rfl) (And.intro rfl (And.intro rfl (And.intro rfl (And.intro rfl (And.intro rfl trivial)))))) ?_
            · exact ⟨by omega, by omega, hGr, hO38⟩
            intro j2 Gr g2 w40 hIw40 ih41
            obtain ⟨hj0, hj1, hGr, hO⟩ := hIw40
            show Run _ _ _ _ [(9, _), (1, _), (5, _), (6, _), (7, _), (8, _)] _ _
            refine run_seq ?_
            refine run_seq ?_
            refine run_region ?_
            refine rl_v rfl rfl rfl (ov_move rfl rfl) ?_
            refine rl_v rfl rfl rfl (ov_move rfl rfl) ?_
            refine rl_v rfl rfl rfl (ov_len rfl Try.underlying22 rfl) ?_
            refine rl_v rfl rfl rfl (ov_lss rfl rfl rfl) ?_
            refine rl_nil ?_
            first | refine run_cond_dec rfl (fun h9 => ?_) (fun h9 => ?_) | refine run_cond rfl (fun h9 => ?_) (fun h9 => ?_)
            · have hui : upd Gv i (.slice (some ⟨rb, 0, none⟩) n ic) i = .slice (some ⟨rb, 0, none⟩) n ic := upd_same _ _ _
              refine run_skip ?_
              refine run_seq ?_
              refine run_block ?_
              refine run_tail 21 mixed (by kernel_rfl) ?_
              have hO43 := hO.drew
              generalize World.drew w40 = w42 at hO43 ⊢
              refine rt_v rfl rfl rfl (ov_move rfl rfl) ?_
              refine rt_v rfl rfl rfl (ov_move rfl rfl) ?_
              refine rt_v rfl rfl rfl (ov_index1 rfl Try.underlying22 (by kernel_rfl) rfl rfl ⟨by omega, by omega⟩ (by first | rfl | exact hga (by omega) | exact hra i (by omega) (by omega) (by omega))) ?_
              refine rt_v rfl rfl rfl (ov_load rfl Try.underlying23 rfl rfl (by first | exact (hO43.cellI 1 rfl i (by omega) (by omega)).trans (congrArg some hui))) ?_
              refine rt_v rfl rfl rfl (ov_move rfl rfl) ?_
              refine rt_v rfl rfl rfl (ov_move rfl rfl) ?_
              refine rt_v rfl rfl rfl (ov_move rfl rfl) ?_
              refine rt_v rfl rfl rfl (ov_index1 rfl Try.underlying22 (by kernel_rfl) rfl rfl ⟨by omega, by omega⟩ (by first | rfl | exact hga (by omega) | exact hra i (by omega) (by omega) (by omega))) ?_
              refine rt_v rfl rfl rfl (ov_load rfl Try.underlying23 rfl rfl (by first | exact (hO43.cellI 1 rfl i (by omega) (by omega)).trans (congrArg some hui))) ?_
              refine rt_v rfl rfl rfl (ov_move rfl rfl) ?_
              refine rt_v rfl rfl rfl (ov_index1 rfl Try.underlying23 (by kernel_rfl) rfl rfl ⟨by omega, by omega⟩ (by first | rfl | exact hga (by omega) | exact hra i (by omega) (by omega) (by omega))) ?_
              refine rt_v rfl rfl rfl (ov_load rfl Try.underlying2 rfl rfl (by first | exact (hO43.cellI 0 rfl j2 hj0 (by omega)).trans (congrArg some (hGr j2 hj0 h9)))) ?_
              refine rt_v rfl rfl rfl (ov_move rfl rfl) ?_
              refine rt_v rfl rfl rfl (ov_move rfl rfl) ?_
              refine rt_v rfl rfl rfl (ov_index1 rfl Try.underlying22 (by kernel_rfl) rfl rfl ⟨by omega, by omega⟩ (by first | rfl | exact hga (by omega) | exact hra i (by omega) (by omega) (by omega))) ?_
              refine rt_v rfl rfl rfl (ov_load rfl Try.underlying23 rfl rfl (by first | exact hrow _ hO43.below i (by omega) (by omega))) ?_
              refine rt_v rfl rfl rfl (ov_move rfl rfl) ?_
              refine rt_v rfl rfl rfl (ov_index1 rfl Try.underlying23 (by kernel_rfl) rfl rfl ⟨by omega, by omega⟩ (by first | rfl | exact hga (by omega) | exact hra i (by omega) (by omega) (by omega))) ?_
              refine rt_v rfl rfl rfl (ov_load rfl Try.underlying2 rfl rfl (by first | exact hel _ hO43.below i (by omega) (by omega) j2 (by omega) (by omega))) ?_
              refine rt_v rfl rfl rfl (ov_min rfl rfl rfl) ?_
              refine rt_v rfl rfl rfl (ov_index1 rfl Try.underlying23 (by kernel_rfl) rfl rfl ⟨by omega, by omega⟩ (by first | rfl | exact hga (by omega) | exact hra i (by omega) (by omega) (by omega))) ?_
              refine rt_nil ?_
              refine rl_ow rfl (ow_store rfl rfl (by kernel_rfl) hO43 0 rfl rfl ⟨by omega, by omega⟩ rfl rfl) ?_
              rintro _ w44 ⟨rfl, hO45, hs46⟩
              refine rl_nil ?_
              refine run_inBlock ?_
              refine run_region ?_
              refine rl_v rfl rfl rfl (ov_move rfl rfl) ?_
              refine rl_v rfl rfl rfl (ov_add rfl rfl rfl (by omega)) ?_
              refine rl_v rfl rfl rfl (ov_assign rfl rfl) ?_
              refine rl_nil ?_
              refine Run.use (ih41 (j2 + 1) (upd Gr j2 (.int .i64 (min (g2 j2) (D i j2)))) (upd g2 j2 (min (g2 j2) (D i j2))) _ ?_ ?_) (And.intro (by first | with_reducible rfl | exact slot_int rfl (by first | omega) | rfl) (And.intro rfl (And.intro rfl (And.intro rfl (And.intro rfl (And.intro rfl trivial))))))
              · first | omega | (dsimp only; omega)
              · exact ⟨by omega, by omega, fun c c0 c1 => by unfold upd; split; rfl; exact hGr c c0 c1, hO45⟩
            · obtain ⟨H', hT', hO'⟩ := OTab.put (R := []) (rv := rv) (ch := ch) (L := Lx) (F := fun r c => .int .i64 (X r c)) j (by omega) (x := .slice (some ⟨rb, 0, none⟩) n ic) (m := n) (G := fun c => .int .i64 (g2 c)) (IRow.ofV (b := ob) (cap := xc) (G' := upd Gv i (.slice (some ⟨rb, 0, none⟩) n ic)) hq1 hq2 (fun r r0 r1 => by rw [hij]; unfold upd; split; rfl; (rename_i e; rw [hGo r e]; exact hGv0 r r0 r1))) h3t (IRow.ofV hq3 hq4 hGr) hO
              have hT'' : OTab (.slice (some ⟨ob, 0, none⟩) n xc) 23 2 n (upd Lx j n) (fun r c => .int .i64 (upd X j g2 r c)) H' := hT'.congr fun r c _ _ _ _ => by unfold upd; split <;> rfl
              have hO2 := hO'.sub (List.sublist_append_left H' [])
              refine run_exit rfl ?_
              refine run_inBlock ?_
              refine run_region ?_
              refine rl_v rfl rfl rfl (ov_move rfl rfl) ?_
              refine rl_v rfl rfl rfl (ov_add rfl rfl rfl (by omega)) ?_
              refine rl_v rfl rfl rfl (ov_assign rfl rfl) ?_
              refine rl_nil ?_
              refine Run.use (ih28 (i + 1) (j + 1) (upd Lx j n) (upd X j g2) (H') _ ?_ ?_) (And.intro (by first | with_reducible rfl | exact slot_int rfl (by first | omega) | rfl) (And.intro rfl (And.intro rfl (And.intro rfl (And.intro rfl trivial)))))
              · first | omega | (dsimp only; omega)
              · exact ⟨by omega, by omega, fun r => by unfold upd; split; omega; exact hL7 r, hT'', hO2⟩
        · refine run_exit rfl ?_
          refine run_inBlock ?_
          refine run_region ?_
          refine rl_v rfl rfl rfl (ov_move rfl rfl) ?_
          refine rl_v rfl rfl rfl (ov_add rfl rfl rfl (by omega)) ?_
          refine rl_v rfl rfl rfl (ov_assign rfl rfl) ?_
          refine rl_nil ?_
          refine Run.use (ih9 (k + 1) (.slice xo n xc) (n) (Lx) (X) (Hx) _ ?_ ?_) (And.intro (by first | with_reducible rfl | exact slot_int rfl (by first | omega) | rfl) (And.intro rfl (And.intro rfl (And.intro rfl trivial))))
          · first | omega | (dsimp only; omega)
          · exact ⟨by omega, by omega, by omega, hTx, hO⟩
  · refine run_exit rfl ?_
    refine run_seq ?_
    refine run_region ?_
    refine rl_v rfl rfl rfl (ov_move rfl rfl) ?_
    refine rl_call callable_42 rfl rfl rfl rfl rfl rfl (ring_any to n tc D _ hv (hIT.later hO.below)) (fun e47 w48 hp49 => ?_)
    obtain ⟨l, ao', cap', b, rfl, hres, hb5⟩ := hp49
    refine ⟨_, rfl, ?_⟩
    have hO50 := hO.past hb5
    refine rl_v rfl rfl rfl (ov_move rfl rfl) ?_
    refine rl_v rfl rfl rfl (ov_extract rfl rfl (by rfl)) ?_
    refine rl_v rfl rfl rfl (ov_extract rfl rfl (by rfl)) ?_
    refine rl_v rfl rfl rfl (ov_assign rfl rfl) ?_
    refine rl_v rfl rfl rfl (ov_assign rfl rfl) ?_
    refine rl_nil ?_
    refine run_seq ?_
    refine run_region ?_
    refine rl_v rfl rfl rfl (ov_move rfl rfl) ?_
    refine rl_call callable_43 rfl rfl rfl rfl rfl rfl (positions_any2 to n tc D _ hv (hIT.later hO50.below)) (fun e51 w52 hp53 => ?_)
    obtain ⟨b12, rfl, hOq12⟩ := hp53
    refine ⟨_, rfl, ?_⟩
    have hO54 := hO50.join hOq12
    refine rl_v rfl rfl rfl (ov_move rfl rfl) ?_
    refine rl_v rfl rfl rfl (ov_extract rfl rfl (by rfl)) ?_
    refine rl_v rfl rfl rfl (ov_extract rfl rfl (by rfl)) ?_
    refine rl_v rfl rfl rfl (ov_assign rfl rfl) ?_
    refine rl_v rfl rfl rfl (ov_assign rfl rfl) ?_
    refine rl_nil ?_
    refine run_seq ?_
    refine run_region ?_
    refine rl_v rfl rfl rfl (ov_move rfl rfl) ?_
    refine rl_call callable_44 rfl rfl rfl rfl rfl rfl (pairwise_any to n tc D _ hv (hIT.later hO54.below)) (fun e55 w56 hp57 => ?_)
    obtain ⟨v14, H14, rfl, hT14, hOq14⟩ := hp57
    refine ⟨_, rfl, ?_⟩
    have hO58 := hO54.join hOq14
    obtain ⟨aw, xw, rfl⟩ := hT14.val
    have hIw := hT14.reads hO58
    have hOz := hO58.perm List.perm_append_comm
    have hIp := hOz.readsI 0 rfl
    have hOC := hOA.join hO58
    have hIl : b = true → RingL n D l ∧ IAt w56.heap.size w56 ao' l.length (fun j => .int .i64 (lF l j)) := fun e => by
      have q := hres.resolve_right (fun hx => by rw [hx.1] at e; cases e)
      exact ⟨q.2.1, (((q.2.2.below (hOq12.below)).mono hOq12.below.size).below hOq14.below).mono hOq14.below.size⟩
    have hIT2 := hIT.later hO58.below
    clear hIT
    have hIT := hIT2
    have hI0 := Own.init w56
    refine rl_v rfl rfl rfl (ov_move rfl rfl) ?_
    refine rl_v rfl rfl rfl (ov_extract rfl rfl (by rfl)) ?_
    refine rl_v rfl rfl rfl (ov_extract rfl rfl (by rfl)) ?_
    refine rl_v rfl rfl rfl (ov_assign rfl rfl) ?_
    refine rl_v rfl rfl rfl (ov_assign rfl rfl) ?_
    refine rl_nil ?_
    refine run_seq ?_
    refine run_region ?_
    refine rl_v rfl rfl rfl (ov_move rfl rfl) ?_
    refine rl_v rfl rfl rfl (ov_move rfl rfl) ?_
    refine rl_call callable_45 rfl rfl rfl rfl rfl rfl (rings_any to n tc D _ hle (hIT.later hI0.below)) (fun e59 w60 hp61 => ?_)
    obtain ⟨⟨b', rfl, hb'⟩, hb6⟩ := hp61
    refine ⟨_, rfl, ?_⟩
    have hO62 := hI0.past hb6
    have hbb : b = b' := by
      rw [Bool.eq_iff_iff, hb']
      constructor
      · intro e; exact (hIl e).1.has
      · intro e; exact (hres.resolve_right (fun hx => hx.2.2 e)).1
    refine rl_v rfl rfl rfl (ov_eqlB rfl Try.underlying4 rfl rfl) ?_
    refine rl_v rfl rfl rfl (ov_move rfl rfl) ?_
    refine rl_known 124 rfl (hbb) ?_
    refine rl_gv rfl rfl rfl rfl rfl (ov_move rfl rfl) ?_
    refine rl_gv rfl rfl rfl rfl rfl (ov_move rfl rfl) ?_
    first | refine rl_split_dec 126 rfl (fun g1 => ?_) (fun g1 => ?_) | refine rl_split 126 rfl (fun g1 => ?_) (fun g1 => ?_)
    · refine rl_gv rfl rfl rfl rfl rfl (ov_move rfl rfl) ?_
      refine rl_gv rfl rfl rfl rfl rfl (ov_move rfl rfl) ?_
      refine rl_gcall callable_46 rfl rfl rfl rfl rfl rfl rfl rfl (refRing_any to ao' n tc cap' l D _ hle (hIl g1).1 (hIT.later hO62.below) ((hIl g1).2.later hO62.below)) (fun e64 w65 hp66 => ?_)
      obtain ⟨rfl, hb7⟩ := hp66
      refine ⟨_, rfl, ?_⟩
      have hO67 := hO62.past hb7
      refine rl_gv rfl rfl rfl rfl rfl (ov_pick_t rfl rfl rfl) ?_
      refine rl_gv rfl rfl rfl rfl rfl (ov_move rfl rfl) ?_
      first | refine rl_split_dec 131 rfl (fun k1 => ?_) (fun k1 => ?_) | refine rl_split 131 rfl (fun k1 => ?_) (fun k1 => ?_)
      · refine rl_gskip rfl rfl rfl rfl rfl rfl ?_
        refine rl_gskip rfl rfl rfl rfl rfl rfl ?_
        refine rl_gskip rfl rfl rfl rfl rfl rfl ?_
        refine rl_gundef rfl rfl rfl rfl rfl ?_
        refine rl_gundef rfl rfl rfl rfl rfl ?_
        refine rl_gundef rfl rfl rfl rfl rfl ?_
        refine rl_gskip rfl rfl rfl rfl rfl rfl ?_
        refine rl_gv rfl rfl rfl rfl rfl (ov_pick_t rfl rfl rfl) ?_
        refine rl_v rfl rfl rfl (ov_pick_t rfl rfl rfl) ?_
        refine rl_v rfl rfl rfl (ov_move rfl rfl) ?_
        refine rl_gv rfl rfl rfl rfl rfl (ov_move rfl rfl) ?_
        refine rl_gv rfl rfl rfl rfl rfl (ov_eql rfl rfl rfl) ?_
        refine rl_v rfl rfl rfl (ov_pick_t rfl rfl rfl) ?_
        refine rl_v rfl rfl rfl (ov_move rfl rfl) ?_
        refine rl_known 145 rfl (rfl) ?_
        refine rl_gv rfl rfl rfl rfl rfl (ov_move rfl rfl) ?_
        refine rl_gv rfl rfl rfl rfl rfl (ov_move rfl rfl) ?_
        refine rl_gcall callable_47 rfl rfl rfl rfl rfl rfl rfl rfl (refPositions_any to n tc D _ hle hv.all (hIT.later hO67.below)) (fun e69 w70 hp71 => ?_)
        obtain ⟨bq1, rfl, hOr1⟩ := hp71
        refine ⟨_, rfl, ?_⟩
        have hO72 := hO67.join hOr1
        refine rl_gcall callable_23 rfl rfl rfl rfl rfl rfl rfl rfl (longs_any _ _ n n n n (ps n D) (ps n D) _ (by omega) (hIp.later hO72.below) (hO72.readsI 0 rfl)) (fun e73 w74 hp75 => ?_)
        obtain ⟨⟨cl1, rfl, hcl1⟩, hbl1⟩ := hp75
        refine ⟨_, rfl, ?_⟩
        have hO76 := hO72.past hbl1
        obtain rfl : cl1 = true := hcl1.2 ⟨rfl, fun _ _ _ => rfl⟩
        refine rl_v rfl rfl rfl (ov_pick_t rfl rfl rfl) ?_
        refine rl_v rfl rfl rfl (ov_move rfl rfl) ?_
        first | refine rl_split_dec 151 rfl (fun k2 => ?_) (fun k2 => ?_) | refine rl_split 151 rfl (fun k2 => ?_) (fun k2 => ?_)
        · refine rl_gv rfl rfl rfl rfl rfl (ov_move rfl rfl) ?_
          refine rl_gv rfl rfl rfl rfl rfl (ov_eql rfl rfl rfl) ?_
          refine rl_v rfl rfl rfl (ov_pick_t rfl rfl rfl) ?_
          refine rl_v rfl rfl rfl (ov_move rfl rfl) ?_
          refine rl_known 155 rfl (rfl) ?_
          refine rl_gv rfl rfl rfl rfl rfl (ov_move rfl rfl) ?_
          refine rl_gv rfl rfl rfl rfl rfl (ov_move rfl rfl) ?_
          refine rl_gcall callable_49 rfl rfl rfl rfl rfl rfl rfl rfl (refPairwise_any to n tc D _ hv (hIT.later hO76.below)) (fun e78 w79 hp80 => ?_)
          obtain ⟨vp1, Hp1, rfl, hTp1, hOp1⟩ := hp80
          refine ⟨_, rfl, ?_⟩
          have hO81 := hO76.join hOp1
          obtain ⟨pp1, pc1, rfl⟩ := hTp1.val
          refine rl_gcall callable_48 rfl rfl rfl rfl rfl rfl rfl rfl (tables_any _ _ n xw n pc1 (fun _ => n) (fun r c => max 0 (D r c - D c r)) (fun r c => max 0 (D r c - D c r)) _ (by omega) (fun _ _ _ => by omega) (hIw.later hO81.below) (hTp1.reads hO81) rfl (fun _ _ _ _ _ _ => rfl)) (fun e82 w83 hp84 => ?_)
          obtain ⟨rfl, hbt1⟩ := hp84
          refine ⟨_, rfl, ?_⟩
          have hO85 := hO81.past hbt1
          refine rl_v rfl rfl rfl (ov_pick_t rfl rfl rfl) ?_
          refine rl_v rfl rfl rfl (ov_move rfl rfl) ?_
          first | refine rl_split_dec 161 rfl (fun k3 => ?_) (fun k3 => ?_) | refine rl_split 161 rfl (fun k3 => ?_) (fun k3 => ?_)
          · refine rl_gcall callable_18 rfl rfl rfl rfl rfl rfl rfl rfl (awake_any _) (fun e87 w88 hp89 => ?_)
            obtain ⟨rfl, hba1⟩ := hp89
            refine ⟨_, rfl, ?_⟩
            have hO90 := hO85.past hba1
            refine rl_v rfl rfl rfl (ov_pick_t rfl rfl rfl) ?_
            refine rl_v rfl rfl rfl (ov_assign rfl rfl) ?_
            refine rl_nil ?_
            refine run_ret Try.func8 (res1 Try.results8 rfl) ?_
            exact ⟨rfl, (hOC.join hO90).below⟩
          · exfalso; cases k3
        · exfalso; cases k2
      · exfalso; cases k1
    · obtain ⟨_, hl, _⟩ := hres.resolve_left (fun hx => by rw [hx.1] at g1; cases g1)
      subst g1
      subst hl
      refine rl_gskip rfl rfl rfl rfl rfl rfl ?_
      refine rl_gskip rfl rfl rfl rfl rfl rfl ?_
      refine rl_gskip rfl rfl rfl rfl rfl rfl ?_
      refine rl_gv rfl rfl rfl rfl rfl (ov_pick_f rfl rfl rfl) ?_
      refine rl_gv rfl rfl rfl rfl rfl (ov_move rfl rfl) ?_
      refine rl_gv rfl rfl rfl rfl rfl (ov_move rfl rfl) ?_
      refine rl_gv rfl rfl rfl rfl rfl (ov_not rfl rfl) ?_
      refine rl_gv rfl rfl rfl rfl rfl (ov_move rfl rfl) ?_
      first | refine rl_split_dec 134 rfl (fun k4 => ?_) (fun k4 => ?_) | refine rl_split 134 rfl (fun k4 => ?_) (fun k4 => ?_)
      · refine rl_gv rfl rfl rfl rfl rfl (ov_move rfl rfl) ?_
        refine rl_gv rfl rfl rfl rfl rfl (ov_len rfl Try.underlying55 rfl) ?_
        refine rl_gv rfl rfl rfl rfl rfl (ov_eql rfl rfl rfl) ?_
        refine rl_gv rfl rfl rfl rfl rfl (ov_pick_t rfl rfl rfl) ?_
        refine rl_gv rfl rfl rfl rfl rfl (ov_pick_f rfl rfl rfl) ?_
        refine rl_v rfl rfl rfl (ov_pick_t rfl rfl rfl) ?_
        refine rl_v rfl rfl rfl (ov_move rfl rfl) ?_
        refine rl_known 141 rfl (rfl) ?_
        refine rl_gv rfl rfl rfl rfl rfl (ov_move rfl rfl) ?_
        refine rl_gv rfl rfl rfl rfl rfl (ov_eql rfl rfl rfl) ?_
        refine rl_v rfl rfl rfl (ov_pick_t rfl rfl rfl) ?_
        refine rl_v rfl rfl rfl (ov_move rfl rfl) ?_
        refine rl_known 145 rfl (rfl) ?_
        refine rl_gv rfl rfl rfl rfl rfl (ov_move rfl rfl) ?_
        refine rl_gv rfl rfl rfl rfl rfl (ov_move rfl rfl) ?_
        refine rl_gcall callable_47 rfl rfl rfl rfl rfl rfl rfl rfl (refPositions_any to n tc D _ hle hv.all (hIT.later hO62.below)) (fun e92 w93 hp94 => ?_)
        obtain ⟨bq2, rfl, hOr2⟩ := hp94
        refine ⟨_, rfl, ?_⟩
        have hO95 := hO62.join hOr2
        refine rl_gcall callable_23 rfl rfl rfl rfl rfl rfl rfl rfl (longs_any _ _ n n n n (ps n D) (ps n D) _ (by omega) (hIp.later hO95.below) (hO95.readsI 0 rfl)) (fun e96 w97 hp98 => ?_)
        obtain ⟨⟨cl2, rfl, hcl2⟩, hbl2⟩ := hp98
        refine ⟨_, rfl, ?_⟩
        have hO99 := hO95.past hbl2
        obtain rfl : cl2 = true := hcl2.2 ⟨rfl, fun _ _ _ => rfl⟩
        refine rl_v rfl rfl rfl (ov_pick_t rfl rfl rfl) ?_
        refine rl_v rfl rfl rfl (ov_move rfl rfl) ?_
        first | refine rl_split_dec 151 rfl (fun k5 => ?_) (fun k5 => ?_) | refine rl_split 151 rfl (fun k5 => ?_) (fun k5 => ?_)
        · refine rl_gv rfl rfl rfl rfl rfl (ov_move rfl rfl) ?_
          refine rl_gv rfl rfl rfl rfl rfl (ov_eql rfl rfl rfl) ?_
          refine rl_v rfl rfl rfl (ov_pick_t rfl rfl rfl) ?_
          refine rl_v rfl rfl rfl (ov_move rfl rfl) ?_
          refine rl_known 155 rfl (rfl) ?_
          refine rl_gv rfl rfl rfl rfl rfl (ov_move rfl rfl) ?_
          refine rl_gv rfl rfl rfl rfl rfl (ov_move rfl rfl) ?_
          refine rl_gcall callable_49 rfl rfl rfl rfl rfl rfl rfl rfl (refPairwise_any to n tc D _ hv (hIT.later hO99.below)) (fun e101 w102 hp103 => ?_)
          obtain ⟨vp2, Hp2, rfl, hTp2, hOp2⟩ := hp103
          refine ⟨_, rfl, ?_⟩
          have hO104 := hO99.join hOp2
          obtain ⟨pp2, pc2, rfl⟩ := hTp2.val
          refine rl_gcall callable_48 rfl rfl rfl rfl rfl rfl rfl rfl (tables_any _ _ n xw n pc2 (fun _ => n) (fun r c => max 0 (D r c - D c r)) (fun r c => max 0 (D r c - D c r)) _ (by omega) (fun _ _ _ => by omega) (hIw.later hO104.below) (hTp2.reads hO104) rfl (fun _ _ _ _ _ _ => rfl)) (fun e105 w106 hp107 => ?_)
          obtain ⟨rfl, hbt2⟩ := hp107
          refine ⟨_, rfl, ?_⟩
          have hO108 := hO104.past hbt2
          refine rl_v rfl rfl rfl (ov_pick_t rfl rfl rfl) ?_
          refine rl_v rfl rfl rfl (ov_move rfl rfl) ?_
          first | refine rl_split_dec 161 rfl (fun k6 => ?_) (fun k6 => ?_) | refine rl_split 161 rfl (fun k6 => ?_) (fun k6 => ?_)
          · refine rl_gcall callable_18 rfl rfl rfl rfl rfl rfl rfl rfl (awake_any _) (fun e110 w111 hp112 => ?_)
            obtain ⟨rfl, hba2⟩ := hp112
            refine ⟨_, rfl, ?_⟩
            have hO113 := hO108.past hba2
            refine rl_v rfl rfl rfl (ov_pick_t rfl rfl rfl) ?_
            refine rl_v rfl rfl rfl (ov_assign rfl rfl) ?_
            refine rl_nil ?_
            refine run_ret Try.func8 (res1 Try.results8 rfl) ?_
            exact ⟨rfl, (hOC.join hO113).below⟩
          · exfalso; cases k6
        · exfalso; cases k5
      · exfalso; cases k4
end Go.Proofs.Ytiambddcpflkhaa
