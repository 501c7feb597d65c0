import Derived.Test.YteagflekbbchhaaReF
set_option maxRecDepth 100000
namespace Go.Proofs.Yteagflekbbchhaa
open Go.RowKit Go.Proofs
theorem RK.setL_self (K : RK) {n : Int} (hn : N3 n) : K.setL n (K.la n) (K.lp n) (K.lb n) = K := by rcases hn with rfl | rfl | rfl <;> rfl
theorem kn0_snoc (l : List Rc) (r : Rc) : MW.kn0 (l ++ [r]) = upd (MW.kn0 l) r.2 (Ds.s 2) := by unfold MW.kn0; rw [List.foldl_append]; rfl
theorem kn0_row {l : List Rc} {i : Int} (h : l.take (i + 1).toNat = l.take i.toNat ++ [l.getD i.toNat (0, 0)]) (j : Int) : upd (fun j => tkl (MW.kn0 (l.take i.toNat) (j + 1))) ((l.getD i.toNat (0, 0)).2 - 1) (tkl (Ds.s 2)) j = tkl (MW.kn0 (l.take (i + 1).toNat) (j + 1)) := by
 rw [h, kn0_snoc]
 by_cases e : j = (l.getD i.toNat (0, 0)).2 - 1
 ·rw [e, upd_same, Int.sub_add_cancel, upd_same]
 ·rw [upd_ne _ _ e, upd_ne _ _ (by omega)]
theorem up_ok {N : List (Option Blk)} {X : MW} {K : RK} (h : ROk N X K) {ta : Option Addr} {tc : Nat} {ct : Option Blk}
  (ht : SRow (.slice ta X.deals.length tc) 127 5 X.deals.length (tk ((X.setLg 0 ⟨(X.lg 0).recs, (X.lg 0).recs.length, 0, false⟩).start 0)) ct) : ROk N ((X.setLg 0 ⟨(X.lg 0).recs, (X.lg 0).recs.length, 0, false⟩).start 0) (K.setT ta tc ct) := by
 refine ⟨h.mv, h.gv, h.dv, ht, h.bv, fun m hm => ?_⟩
 rcases hm with rfl | rfl | rfl
 ·exact h.lv 0 (.inl rfl)
 ·exact h.lv 1 (by unfold N3; omega)
 ·exact h.lv 2 (by unfold N3; omega)
theorem rup_any (X : MW) (n : Int) (v : Value) (B : Nat) (N H : List (Option Blk)) (w0 w : World) (hn : N3 n) (hG : Good X) (hdw : (X.lg n).down = true) (h : RWt B w0 w v X N H) :
  Calls Try.prog 87 #[v, iv n] w fun e w' => ∃ v', e = .returned v' ∧ RWt B w0 w' v' (X.restart n) N H := by
 obtain ⟨K, rfl, hO, hK⟩ := h
 have hn0 : 0 ≤ n ∧ n ≤ 2 := by unfold N3 at hn; omega
 have hdn := hG.dn
 have hres : X.restart n = (X.setLg n ⟨(X.lg n).recs, (X.lg n).recs.length, 0, false⟩).start n := by unfold MW.restart; dsimp only; rw [if_pos hdw]
 have hput := rw_put X K hn (K.la n) (K.lp n) (K.lb n) ⟨(X.lg n).recs, (X.lg n).recs.length, 0, false⟩
 rw [K.setL_self hn] at hput
 have hrm := rw_room5 (X := X) (K := K) hn (a := K.la n) (p := K.lp n) (l := ⟨(X.lg n).recs, (X.lg n).recs.length, 0, false⟩)
 have hlen := hG.len hn
 refine calls_of_run (F := [(0, _), (1, _)]) Try.func87 rfl Try.ntmps87 rfl rfl <| run_seq <| run_region <| rl_ow rfl (ow_box _ rfl rfl rfl rfl rfl hO) ?_
 rintro _ w1 ⟨b2, rfl, hO2, hs3⟩
 refine rl_ow rfl (ow_alloc _ rfl rfl rfl zero_69 rfl hO2) ?_
 rintro _ w4 ⟨b4, rfl, hO5, hs6⟩
 refine rl_nil <| run_seq <| run_region <| rl_v rfl rfl rfl (ov_move rfl rfl) <| rl_v rfl rfl rfl (ov_fieldS rfl Try.underlying69 rfl (fo := 7) rfl (by kernel_rfl) rfl) ?_
 refine rl_v rfl rfl rfl (ov_indexA rfl Try.underlying67 (by kernel_rfl) (s := 5) rfl rfl ⟨by omega, by omega⟩) ?_
 refine rl_v rfl rfl rfl (ov_fieldS rfl Try.underlying66 rfl (fo := 0) rfl (by kernel_rfl) rfl) ?_
 refine rl_v rfl rfl rfl (ov_load rfl Try.underlying64 rfl rfl (by exact hO5.cellL 1 rfl ((rw_node X K hn 0 (by omega)).trans rfl))) ?_
 refine rl_v rfl rfl rfl (ov_assign rfl rfl) <| rl_nil <| run_seq <| run_region <| rl_v rfl rfl rfl (ov_move rfl rfl) <| rl_v rfl rfl rfl (ov_move rfl rfl) <| rl_v rfl rfl rfl (ov_move rfl rfl) <| rl_v rfl rfl rfl (ov_len rfl Try.underlying64 rfl) <| rl_v rfl rfl rfl (ov_buildL rfl lay_66 rfl (us := [_, _, _, _, _]) rfl) <| rl_v rfl rfl rfl (ov_fieldS rfl Try.underlying69 rfl (fo := 7) rfl (by kernel_rfl) rfl) ?_
 refine rl_v rfl rfl rfl (ov_indexA rfl Try.underlying67 (by kernel_rfl) (s := 5) rfl rfl ⟨by omega, by omega⟩) ?_
 refine rl_ow rfl (ow_storeP (us := [.slice (K.la n) (X.lg n).recs.length (K.lp n), iv (X.lg n).recs.length, .bool false, .bool false, iv 0]) rfl rfl (by kernel_rfl) hO5 1 rfl rfl hrm rfl rfl hput) ?_
 rintro _ w7 ⟨rfl, hO8, hs9⟩
 refine rl_nil <| run_seq <| run_seq <| run_region <| rl_v rfl rfl rfl (ov_move rfl rfl) <| rl_v rfl rfl rfl (ov_gtr rfl rfl rfl) <| rl_nil ?_
 first | refine run_cond_dec rfl (fun q1 => ?_) (fun q2 => ?_) | refine run_cond rfl (fun q1 => ?_) (fun q2 => ?_)
 ·refine run_seq <| run_region <| rl_v rfl rfl rfl (ov_loadW rfl Try.underlying69 rfl (by kernel_rfl) rfl hO8 1 rfl) ?_
  refine rl_ow rfl (ow_storeW rfl rfl (by kernel_rfl) hO8 0 rfl rfl (by rfl) rfl (by rfl)) ?_
  rintro _ w10 ⟨rfl, hO11, hs12⟩
  have hKn : ROk N (X.setLg n ⟨(X.lg n).recs, (X.lg n).recs.length, 0, false⟩) K := by
   have := hK.logged hn (l := ⟨(X.lg n).recs, (X.lg n).recs.length, 0, false⟩) (a := K.la n) (p := K.lp n) (c := K.lb n) (hK.lv n hn) (tk_down (by rw [setLg_c (by omega)]) (setLg_kn _ _ _))
   rwa [K.setL_self hn] at this
  refine rl_nil <| run_ret Try.func87 (resW Try.results87 rfl Try.underlying69 rfl (by kernel_rfl) hO11 0 rfl) ?_
  exact ⟨_, rfl, by rw [hres, show ∀ Y : MW, Y.start n = Y from fun Y => by unfold MW.start; rw [if_neg (by omega)]]; exact ⟨K, rfl, hO11.tail.tail, hKn⟩⟩
 ·obtain rfl : n = 0 := by omega
  refine run_skip <| run_seq <| run_region <| rl_v rfl rfl rfl (ov_fieldS rfl Try.underlying69 rfl (fo := 5) rfl (by kernel_rfl) rfl) ?_
  refine rl_v rfl rfl rfl (ov_load rfl Try.underlying62 rfl rfl (by exact hO8.cellL 1 rfl rfl)) ?_
  refine rl_v rfl rfl rfl (ov_len rfl Try.underlying62 rfl) <| rl_ow rfl (ow_makeS X.deals.length (tkl Ds.z) rfl rfl rfl Try.underlying62 info_127 rfl rfl hO8 rfl rfl rfl rfl ⟨by omega, by omega⟩) ?_
  rintro _ w13 ⟨bt, ct, rfl, hO14, hrt, hs15⟩
  obtain ⟨gb, hga, hrow⟩ := (PRow.of_row (hK.lv 0 hn) (K.lb_mem hn)).open
  refine rl_v rfl rfl rfl (ov_assign rfl rfl) <| rl_nil <| run_seq <| run_seq <| run_region <| rl_v rfl rfl rfl (ov_assign rfl rfl) <| rl_nil <| run_block <| Run.keep [2, 4, 5, 6, 7] (F' := [(2, _), (4, _), (5, _), (6, _), (7, _)]) rfl <| run_loop2 (fun (i : Int) (c : Option Blk) => [(7, .int .i64 i)]) [2, 4, 5, 6] (fun (i : Int) (c : Option Blk) (w16 : World) => 0 ≤ i ∧ i ≤ (X.lg 0).recs.length ∧ SRow (.slice (some ⟨bt, 0, none⟩) X.deals.length X.deals.length) 127 5 X.deals.length (fun j => tkl (MW.kn0 ((X.lg 0).recs.take i.toNat) (j + 1))) c ∧ Own B w0 w16 (c :: some (lch b4 69 rwz) :: some (lch b2 69 (rwl (X.setLg 0 ⟨(X.lg 0).recs, (X.lg 0).recs.length, 0, false⟩) K)) :: (H ++ K.M))) (fun (i : Int) (c : Option Blk) => (((X.lg 0).recs.length : Int) - i).toNat) (0) (ct) ?_ (And.intro (by exact slot_int rfl (by first | omega)) (And.intro rfl (And.intro rfl (And.intro rfl (And.intro rfl trivial))))) ?_
  ·exact ⟨by omega, by omega, hrt, hO14⟩
  intro i c w16 hIw16 ih17
  obtain ⟨hi0, hi1, hrc, hOc⟩ := hIw16
  show Run _ _ _ _ [(7, _), (2, _), (4, _), (5, _), (6, _)] _ _
  refine run_seq <| run_seq <| run_region <| rl_v rfl rfl rfl (ov_move rfl rfl) <| rl_v rfl rfl rfl (ov_move rfl rfl) <| rl_v rfl rfl rfl (ov_len rfl Try.underlying64 rfl) <| rl_v rfl rfl rfl (ov_lss rfl rfl rfl) <| rl_nil ?_
  first | refine run_cond_dec rfl (fun hi => ?_) (fun hi => ?_) | refine run_cond rfl (fun hi => ?_) (fun hi => ?_)
  ·have hr2 := take_rec hi0 hi
   have hrg := hG.rc 0 (.inl rfl) ((X.lg 0).recs.getD i.toNat (0, 0)) (getD_mem (l := (X.lg 0).recs) hi0 hi)
   refine run_skip <| run_seq <| run_block <| run_region <| rl_v rfl rfl rfl (ov_move rfl rfl) <| rl_v rfl rfl rfl (ov_move rfl rfl) <| rl_v rfl rfl rfl (ov_move rfl rfl) <| rl_v rfl rfl rfl (ov_index rfl Try.underlying64 (by kernel_rfl) (s := 2) rfl rfl ⟨by omega, by omega⟩ (by exact (hga (by show 0 < (X.lg 0).recs.length; omega)))) ?_
   refine rl_v rfl rfl rfl (ov_fieldS rfl Try.underlying122 rfl (fo := 1) rfl (by kernel_rfl) rfl) ?_
   refine rl_v rfl rfl rfl (ov_load rfl Try.underlying3 rfl rfl (by exact hrow hOc (mem_c1 (mem_c1 (mem_c1 (fun _ hx => List.mem_append_right _ hx)))) i (by omega) hi 1 (by omega))) ?_
   refine rl_v rfl rfl rfl (ov_sub rfl rfl rfl (by omega)) ?_
   refine rl_v rfl rfl rfl (ov_buildL rfl lay_127 rfl (us := [_, _, _, _, _]) rfl) <| rl_v rfl rfl rfl (ov_index rfl Try.underlying62 (by kernel_rfl) (s := 5) rfl rfl ⟨by omega, by omega⟩ (by rfl)) ?_
   refine rl_ow rfl (ow_storeS rfl rfl (by kernel_rfl) hOc hrc (kk := 0) rfl (fun _ => rfl) rfl ⟨by omega, by omega⟩ rfl rfl rfl) ?_
   rintro _ w18 ⟨c41, rfl, hO19, hr41, hs20⟩
   refine rl_nil <| run_inBlock <| run_region <| rl_v rfl rfl rfl (ov_move rfl rfl) <| rl_v rfl rfl rfl (ov_add rfl rfl rfl (by omega)) ?_
   refine rl_v rfl rfl rfl (ov_assign rfl rfl) <| rl_nil ?_
   refine Run.use (ih17 (i + 1) (c41) _ ?_ ?_) (And.intro (by exact slot_int rfl (by first | omega)) (And.intro rfl (And.intro rfl (And.intro rfl (And.intro rfl trivial)))))
   ·first | omega | (dsimp only; omega)
   ·exact ⟨by omega, by omega, hr41.congr (fun j h0 h1 => kn0_row hr2 j), hO19⟩
  ·have hie : i.toNat = (X.lg 0).recs.length := by omega
   rw [hie, List.take_length] at hrc
   refine run_exit rfl <| run_seq <| run_region <| rl_v rfl rfl rfl (ov_move rfl rfl) <| rl_v rfl rfl rfl (ov_fieldS rfl Try.underlying69 rfl (fo := 5) rfl (by kernel_rfl) rfl) ?_
   refine rl_ow rfl (ow_storeL rfl rfl (by kernel_rfl) hOc 2 rfl rfl rfl rfl rfl) ?_
   rintro _ w21 ⟨rfl, hO22, hs23⟩
   refine rl_nil <| run_seq <| run_region <| rl_v rfl rfl rfl (ov_loadW rfl Try.underlying69 rfl (by kernel_rfl) rfl hO22 2 rfl) ?_
   refine rl_ow rfl (ow_storeW rfl rfl (by kernel_rfl) hO22 1 rfl rfl (by rfl) rfl (by rfl)) ?_
   rintro _ w24 ⟨rfl, hO25, hs26⟩
   have hOf := ((hO25.sub (.cons_cons _ (.cons _ (.cons _ (.refl _))))).perm ((List.perm_append_comm (l₁ := H) (l₂ := K.M)).cons c)).swap
   have hOg := (hOf.sub (.cons_cons _ (.cons_cons _ (.cons _ (.refl _))))).perm (List.perm_append_comm (l₁ := (K.setT (some ⟨bt, 0, none⟩) X.deals.length c).M))
   have htk : SRow (.slice (some ⟨bt, 0, none⟩) X.deals.length X.deals.length) 127 5 X.deals.length (tk (X.restart 0)) c := by
    rw [hres, tk_up (X := (X.setLg 0 ⟨(X.lg 0).recs, (X.lg 0).recs.length, 0, false⟩).start 0) rfl]
    exact hrc
   refine rl_nil <| run_ret Try.func87 (resW Try.results87 rfl Try.underlying69 rfl (by kernel_rfl) hO25 1 rfl) ?_
   exact ⟨_, rfl, by rw [hres] at htk ⊢; exact ⟨K.setT (some ⟨bt, 0, none⟩) X.deals.length c, rfl, hOg, up_ok hK htk⟩⟩
theorem nil_joinS {v : Value} {E : TypeId} {s m : Nat} {G : Int → List Value} {c : Option Blk} (h : SRow v E s (0 + m) (joinF (fun _ => []) 0 G) c) : SRow v E s m G c := by
 rw [Nat.zero_add] at h
 refine h.congr fun i h0 h1 => ?_
 unfold joinF
 rw [if_neg (by omega)]
 exact congrArg G (by omega)
theorem rfork_any (X : MW) (K : RK) (B : Nat) (N H : List (Option Blk)) (w0 w : World) (hG : Good X) (hb : X.bag.length < 4000000000000) (hO : Own B w0 w H) (hN : ∀ x ∈ N, x ∈ H) (hK : XIn N X K) :
  Calls Try.prog 80 #[rwv X K] w fun e w' => ∃ v', e = .returned v' ∧ RWt B w0 w' v' X N H := by
 have hdn := hG.dn
 have hl0 := hG.len (n := 0) (.inl rfl)
 have hl1 := hG.len (n := 1) (.inr (.inl rfl))
 have hl2 := hG.len (n := 2) (.inr (.inr rfl))
 have hv0 := hK.lv 0 (.inl rfl)
 have hv1 := hK.lv 1 (.inr (.inl rfl))
 have hv2 := hK.lv 2 (.inr (.inr rfl))
 have hS : ∀ {ao s m cap G}, PRow N (.slice ao m cap) s m G → ∀ (P : List (Option Blk)) {w : World}, Own B w0 w (P ++ H) → SAt w.heap.size w ao s m G := fun h P w hO => Src.of_prow (H := P ++ H) h (fun x hx => List.mem_append_right _ (hN x hx)) B w0 w hO
 refine calls_of_run (F := [(0, _)]) Try.func80 rfl Try.ntmps80 rfl rfl <| run_seq <| run_region <| rl_ow rfl (ow_box _ rfl rfl rfl rfl rfl hO) ?_
 rintro _ w1 ⟨b1, rfl, hO2, hs3⟩
 refine rl_ow rfl (ow_alloc _ rfl rfl rfl zero_69 rfl hO2) ?_
 rintro _ w4 ⟨b2, rfl, hO5, hs6⟩
 have hOn := hO5.nil_cons
 refine rl_nil <| run_seq <| run_region <| rl_v rfl rfl rfl (ov_assign rfl rfl) <| rl_nil <| run_seq <| run_region <| rl_v rfl rfl rfl (ov_assign rfl rfl) <| rl_nil <| run_seq <| run_region <| rl_v rfl rfl rfl (ov_assign rfl rfl) <| rl_nil <| run_seq <| run_region <| rl_v rfl rfl rfl (ov_move rfl rfl) <| rl_v rfl rfl rfl (ov_fieldS rfl Try.underlying69 rfl (fo := 4) rfl (by kernel_rfl) rfl) ?_
 refine rl_v rfl rfl rfl (ov_load rfl Try.underlying25 rfl rfl (by exact hOn.cellL 2 rfl rfl)) ?_
 refine rl_ow rfl (ow_appSR (G := fun _ => []) rfl rfl rfl Try.underlying25 info_34 rfl rfl hOn 0 (SRow.nil _ _ _) rfl rfl rfl (hS hK.dv (none :: some (lch b2 69 rwz) :: some (lch b1 69 (rwl X K)) :: []) hOn) (fun _ _ _ => ⟨rfl, rfl⟩) ⟨by omega, by omega⟩) ?_
 rintro _ w7 ⟨v11, c11, rfl, hO8, hr11, hs9⟩
 replace hr11 := nil_joinS hr11
 obtain ⟨a11, p11, rfl⟩ := hr11.val
 have hOn := hO8.nil_cons
 refine rl_v rfl rfl rfl (ov_assign rfl rfl) <| rl_nil <| run_seq <| run_region <| rl_v rfl rfl rfl (ov_move rfl rfl) <| rl_v rfl rfl rfl (ov_fieldS rfl Try.underlying69 rfl (fo := 5) rfl (by kernel_rfl) rfl) ?_
 refine rl_v rfl rfl rfl (ov_load rfl Try.underlying62 rfl rfl (by exact hOn.cellL 3 rfl rfl)) ?_
 refine rl_ow rfl (ow_appSR (G := fun _ => []) rfl rfl rfl Try.underlying62 info_127 rfl rfl hOn 0 (SRow.nil _ _ _) rfl rfl rfl (hS hK.tv (none :: c11 :: some (lch b2 69 rwz) :: some (lch b1 69 (rwl X K)) :: []) hOn) (fun _ _ _ => ⟨rfl, rfl⟩) ⟨by omega, by omega⟩) ?_
 rintro _ w10 ⟨v15, c15, rfl, hO11, hr15, hs12⟩
 replace hr15 := nil_joinS hr15
 obtain ⟨a15, p15, rfl⟩ := hr15.val
 have hOn := hO11.nil_cons
 refine rl_v rfl rfl rfl (ov_assign rfl rfl) <| rl_nil <| run_seq <| run_region <| rl_v rfl rfl rfl (ov_move rfl rfl) <| rl_v rfl rfl rfl (ov_fieldS rfl Try.underlying69 rfl (fo := 6) rfl (by kernel_rfl) rfl) ?_
 refine rl_v rfl rfl rfl (ov_load rfl Try.underlying63 rfl rfl (by exact hOn.cellL 4 rfl rfl)) ?_
 refine rl_ow rfl (ow_appSR (G := fun _ => []) rfl rfl rfl Try.underlying63 info_136 rfl rfl hOn 0 (SRow.nil _ _ _) rfl rfl rfl (hS hK.bv (none :: c15 :: c11 :: some (lch b2 69 rwz) :: some (lch b1 69 (rwl X K)) :: []) hOn) (fun _ _ _ => ⟨rfl, rfl⟩) ⟨by omega, by omega⟩) ?_
 rintro _ w13 ⟨v19, c19, rfl, hO14, hr19, hs15⟩
 replace hr19 := nil_joinS hr19
 obtain ⟨a19, p19, rfl⟩ := hr19.val
 refine rl_v rfl rfl rfl (ov_assign rfl rfl) <| rl_nil <| run_seq <| run_region <| rl_v rfl rfl rfl (ov_move rfl rfl) <| rl_v rfl rfl rfl (ov_fieldS rfl Try.underlying69 rfl (fo := 4) rfl (by kernel_rfl) rfl) ?_
 refine rl_ow rfl (ow_storeL rfl rfl (by kernel_rfl) hO14 4 rfl rfl rfl rfl rfl) ?_
 rintro _ w16 ⟨rfl, hO17, hs18⟩
 refine rl_nil <| run_seq <| run_region <| rl_v rfl rfl rfl (ov_move rfl rfl) <| rl_v rfl rfl rfl (ov_fieldS rfl Try.underlying69 rfl (fo := 5) rfl (by kernel_rfl) rfl) ?_
 refine rl_ow rfl (ow_storeL rfl rfl (by kernel_rfl) hO17 4 rfl rfl rfl rfl rfl) ?_
 rintro _ w19 ⟨rfl, hO20, hs21⟩
 refine rl_nil <| run_seq <| run_region <| rl_v rfl rfl rfl (ov_move rfl rfl) <| rl_v rfl rfl rfl (ov_fieldS rfl Try.underlying69 rfl (fo := 6) rfl (by kernel_rfl) rfl) ?_
 refine rl_ow rfl (ow_storeL rfl rfl (by kernel_rfl) hO20 4 rfl rfl rfl rfl rfl) ?_
 rintro _ w22 ⟨rfl, hO23, hs24⟩
 refine rl_nil <| run_seq <| run_seq <| run_region <| rl_v rfl rfl rfl (ov_assign rfl rfl) <| rl_nil <| run_block <| run_once <| run_seq <| run_seq <| run_region <| rl_v rfl rfl rfl (ov_move rfl rfl) <| rl_v rfl rfl rfl (ov_lss rfl rfl rfl) <| rl_nil <| run_cond_t rfl ?_
 have hOn := hO23.nil_cons
 refine run_skip <| run_seq <| run_block <| run_seq <| run_region <| rl_v rfl rfl rfl (ov_assign rfl rfl) <| rl_nil <| run_seq <| run_region <| rl_v rfl rfl rfl (ov_move rfl rfl) <| rl_v rfl rfl rfl (ov_move rfl rfl) <| rl_v rfl rfl rfl (ov_fieldS rfl Try.underlying69 rfl (fo := 7) rfl (by kernel_rfl) rfl) ?_
 refine rl_v rfl rfl rfl (ov_indexA rfl Try.underlying67 (by kernel_rfl) (s := 5) rfl rfl ⟨by omega, by omega⟩) ?_
 refine rl_v rfl rfl rfl (ov_fieldS rfl Try.underlying66 rfl (fo := 0) rfl (by kernel_rfl) rfl) ?_
 refine rl_v rfl rfl rfl (ov_load rfl Try.underlying64 rfl rfl (by exact hOn.cellL 5 rfl rfl)) ?_
 refine rl_ow rfl (ow_appSR (G := fun _ => []) rfl rfl rfl Try.underlying64 info_122 rfl rfl hOn 0 (SRow.nil _ _ _) rfl rfl rfl (hS hv0 [none, c19, c15, c11, _, _] hOn) (fun _ _ _ => ⟨rfl, rfl⟩) ⟨by omega, by omega⟩) ?_
 rintro _ w25 ⟨v36x, c36x, rfl, hO26, hr36x, hs27⟩
 replace hr36x := nil_joinS hr36x
 obtain ⟨a36x, p36x, rfl⟩ := hr36x.val
 refine rl_v rfl rfl rfl (ov_assign rfl rfl) <| rl_nil <| run_region <| rl_v rfl rfl rfl (ov_move rfl rfl) <| rl_v rfl rfl rfl (ov_move rfl rfl) <| rl_v rfl rfl rfl (ov_fieldS rfl Try.underlying69 rfl (fo := 7) rfl (by kernel_rfl) rfl) ?_
 refine rl_v rfl rfl rfl (ov_indexA rfl Try.underlying67 (by kernel_rfl) (s := 5) rfl rfl ⟨by omega, by omega⟩) ?_
 refine rl_v rfl rfl rfl (ov_fieldS rfl Try.underlying66 rfl (fo := 0) rfl (by kernel_rfl) rfl) ?_
 refine rl_ow rfl (ow_storeL rfl rfl (by kernel_rfl) hO26 5 rfl rfl rfl rfl rfl) ?_
 rintro _ w28 ⟨rfl, hO29, hs30⟩
 refine rl_nil <| run_inBlock <| run_region <| rl_v rfl rfl rfl (ov_move rfl rfl) <| rl_v rfl rfl rfl (ov_add rfl rfl rfl (by omega)) ?_
 refine rl_v rfl rfl rfl (ov_assign rfl rfl) <| rl_nil <| run_again <| run_seq <| run_seq <| run_region <| rl_v rfl rfl rfl (ov_move rfl rfl) <| rl_v rfl rfl rfl (ov_lss rfl rfl rfl) <| rl_nil <| run_cond_t rfl ?_
 have hOn := hO29.nil_cons
 refine run_skip <| run_seq <| run_block <| run_seq <| run_region <| rl_v rfl rfl rfl (ov_assign rfl rfl) <| rl_nil <| run_seq <| run_region <| rl_v rfl rfl rfl (ov_move rfl rfl) <| rl_v rfl rfl rfl (ov_move rfl rfl) <| rl_v rfl rfl rfl (ov_fieldS rfl Try.underlying69 rfl (fo := 7) rfl (by kernel_rfl) rfl) ?_
 refine rl_v rfl rfl rfl (ov_indexA rfl Try.underlying67 (by kernel_rfl) (s := 5) rfl rfl ⟨by omega, by omega⟩) ?_
 refine rl_v rfl rfl rfl (ov_fieldS rfl Try.underlying66 rfl (fo := 0) rfl (by kernel_rfl) rfl) ?_
 refine rl_v rfl rfl rfl (ov_load rfl Try.underlying64 rfl rfl (by exact hOn.cellL 6 rfl rfl)) ?_
 refine rl_ow rfl (ow_appSR (G := fun _ => []) rfl rfl rfl Try.underlying64 info_122 rfl rfl hOn 0 (SRow.nil _ _ _) rfl rfl rfl (hS hv1 [none, c36x, c19, c15, c11, _, _] hOn) (fun _ _ _ => ⟨rfl, rfl⟩) ⟨by omega, by omega⟩) ?_
 rintro _ w31 ⟨v36y, c36y, rfl, hO32, hr36y, hs33⟩
 replace hr36y := nil_joinS hr36y
 obtain ⟨a36y, p36y, rfl⟩ := hr36y.val
 refine rl_v rfl rfl rfl (ov_assign rfl rfl) <| rl_nil <| run_region <| rl_v rfl rfl rfl (ov_move rfl rfl) <| rl_v rfl rfl rfl (ov_move rfl rfl) <| rl_v rfl rfl rfl (ov_fieldS rfl Try.underlying69 rfl (fo := 7) rfl (by kernel_rfl) rfl) ?_
 refine rl_v rfl rfl rfl (ov_indexA rfl Try.underlying67 (by kernel_rfl) (s := 5) rfl rfl ⟨by omega, by omega⟩) ?_
 refine rl_v rfl rfl rfl (ov_fieldS rfl Try.underlying66 rfl (fo := 0) rfl (by kernel_rfl) rfl) ?_
 refine rl_ow rfl (ow_storeL rfl rfl (by kernel_rfl) hO32 6 rfl rfl rfl rfl rfl) ?_
 rintro _ w34 ⟨rfl, hO35, hs36⟩
 refine rl_nil <| run_inBlock <| run_region <| rl_v rfl rfl rfl (ov_move rfl rfl) <| rl_v rfl rfl rfl (ov_add rfl rfl rfl (by omega)) ?_
 refine rl_v rfl rfl rfl (ov_assign rfl rfl) <| rl_nil <| run_again <| run_seq <| run_seq <| run_region <| rl_v rfl rfl rfl (ov_move rfl rfl) <| rl_v rfl rfl rfl (ov_lss rfl rfl rfl) <| rl_nil <| run_cond_t rfl ?_
 have hOn := hO35.nil_cons
 refine run_skip <| run_seq <| run_block <| run_seq <| run_region <| rl_v rfl rfl rfl (ov_assign rfl rfl) <| rl_nil <| run_seq <| run_region <| rl_v rfl rfl rfl (ov_move rfl rfl) <| rl_v rfl rfl rfl (ov_move rfl rfl) <| rl_v rfl rfl rfl (ov_fieldS rfl Try.underlying69 rfl (fo := 7) rfl (by kernel_rfl) rfl) ?_
 refine rl_v rfl rfl rfl (ov_indexA rfl Try.underlying67 (by kernel_rfl) (s := 5) rfl rfl ⟨by omega, by omega⟩) ?_
 refine rl_v rfl rfl rfl (ov_fieldS rfl Try.underlying66 rfl (fo := 0) rfl (by kernel_rfl) rfl) ?_
 refine rl_v rfl rfl rfl (ov_load rfl Try.underlying64 rfl rfl (by exact hOn.cellL 7 rfl rfl)) ?_
 refine rl_ow rfl (ow_appSR (G := fun _ => []) rfl rfl rfl Try.underlying64 info_122 rfl rfl hOn 0 (SRow.nil _ _ _) rfl rfl rfl (hS hv2 [none, c36y, c36x, c19, c15, c11, _, _] hOn) (fun _ _ _ => ⟨rfl, rfl⟩) ⟨by omega, by omega⟩) ?_
 rintro _ w37 ⟨v36z, c36z, rfl, hO38, hr36z, hs39⟩
 replace hr36z := nil_joinS hr36z
 obtain ⟨a36z, p36z, rfl⟩ := hr36z.val
 refine rl_v rfl rfl rfl (ov_assign rfl rfl) <| rl_nil <| run_region <| rl_v rfl rfl rfl (ov_move rfl rfl) <| rl_v rfl rfl rfl (ov_move rfl rfl) <| rl_v rfl rfl rfl (ov_fieldS rfl Try.underlying69 rfl (fo := 7) rfl (by kernel_rfl) rfl) ?_
 refine rl_v rfl rfl rfl (ov_indexA rfl Try.underlying67 (by kernel_rfl) (s := 5) rfl rfl ⟨by omega, by omega⟩) ?_
 refine rl_v rfl rfl rfl (ov_fieldS rfl Try.underlying66 rfl (fo := 0) rfl (by kernel_rfl) rfl) ?_
 refine rl_ow rfl (ow_storeL rfl rfl (by kernel_rfl) hO38 7 rfl rfl rfl rfl rfl) ?_
 rintro _ w40 ⟨rfl, hO41, hs42⟩
 refine rl_nil <| run_inBlock <| run_region <| rl_v rfl rfl rfl (ov_move rfl rfl) <| rl_v rfl rfl rfl (ov_add rfl rfl rfl (by omega)) ?_
 refine rl_v rfl rfl rfl (ov_assign rfl rfl) <| rl_nil <| run_again <| run_seq <| run_seq <| run_region <| rl_v rfl rfl rfl (ov_move rfl rfl) <| rl_v rfl rfl rfl (ov_lss rfl rfl rfl) <| rl_nil <| run_cond_f rfl <| run_exit rfl <| run_seq <| run_region <| rl_v rfl rfl rfl (ov_loadW rfl Try.underlying69 rfl (by kernel_rfl) rfl hO41 7 rfl) ?_
 refine rl_ow rfl (ow_storeW rfl rfl (by kernel_rfl) hO41 6 rfl rfl (by rfl) rfl (by rfl)) ?_
 rintro _ w43 ⟨rfl, hO44, hs45⟩
 have hOe := (hO44.sub (.cons_cons _ (.cons_cons _ (.cons_cons _ (.cons_cons _ (.cons_cons _ (.cons_cons _ (.cons _ (.cons _ (.refl _)))))))))).perm (((List.reverse_perm [c11, c15, c19, c36x, c36y, c36z]).append_right H).trans List.perm_append_comm)
 have hlv : ∀ n, N3 n → SRow (.slice ((⟨K.ma, K.mc, K.ga, K.gc, a11, p11, a15, p15, a19, p19, a36x, p36x, a36y, p36y, a36z, p36z, c11, c15, c19, c36x, c36y, c36z⟩ : RK).la n) (X.lg n).recs.length ((⟨K.ma, K.mc, K.ga, K.gc, a11, p11, a15, p15, a19, p19, a36x, p36x, a36y, p36y, a36z, p36z, c11, c15, c19, c36x, c36y, c36z⟩ : RK).lp n)) 122 2 (X.lg n).recs.length (cnt rcl (0, 0) (X.lg n).recs) ((⟨K.ma, K.mc, K.ga, K.gc, a11, p11, a15, p15, a19, p19, a36x, p36x, a36y, p36y, a36z, p36z, c11, c15, c19, c36x, c36y, c36z⟩ : RK).lb n) := fun n hn => by
  rcases hn with rfl | rfl | rfl
  ·exact hr36x
  ·exact hr36y
  ·exact hr36z
 refine rl_nil <| run_ret Try.func80 (resW Try.results80 rfl Try.underlying69 rfl (by kernel_rfl) hO44 6 rfl) ?_
 exact ⟨_, rfl, ⟨K.ma, K.mc, K.ga, K.gc, a11, p11, a15, p15, a19, p19, a36x, p36x, a36y, p36y, a36z, p36z, c11, c15, c19, c36x, c36y, c36z⟩, rfl, hOe, ⟨hK.mv, hK.gv, hr11, hr15, hr19, hlv⟩⟩
theorem SRow.fits {ao : Option Addr} {n cap s : Nat} {E : TypeId} {G : Int → List Value} {c : Option Blk} (h : SRow (.slice ao n cap) E s n G c) : n ≤ cap := by
 rcases h with ⟨h1, h2, _⟩ | ⟨b, cap', g, h1, h2, _⟩
 ·cases h1; exact Nat.le_refl _
 ·cases h1; exact h2
theorem dropped_row {X : MW} {i : Int} {v : Value} {E : TypeId} {c : Option Blk} (h0 : 0 ≤ i) (h1 : i < X.bag.length) (hr : SRow v E 4 (i.toNat + (X.bag.length - (i + 1).toNat)) (joinF (cnt msl Ms.z X.bag) i.toNat fun j => cnt msl Ms.z X.bag (j + (i + 1))) c) :
  SRow v E 4 (X.dropAt i.toNat).bag.length (cnt msl Ms.z (X.dropAt i.toNat).bag) c := by
 have e1 : (i + 1).toNat = i.toNat + 1 := by omega
 have e2 : (X.dropAt i.toNat).bag.length = i.toNat + (X.bag.length - (i.toNat + 1)) := by unfold MW.dropAt; simp; omega
 rw [e2]
 rw [e1, show i + 1 = (((i.toNat + 1 : Nat) : Int)) by omega] at hr
 exact hr.congr fun j j0 j1 => drop_cnt (by omega) j j0 j1
theorem rtake_any (X : MW) (i : Int) (v : Value) (B : Nat) (N H : List (Option Blk)) (w0 w : World) (hi : 0 ≤ i ∧ i < X.bag.length) (hb : X.bag.length < 4000000000000) (h : RWt B w0 w v X N H) :
  Calls Try.prog 82 #[v, iv i] w fun e w' => ∃ v', e = .returned (.tuple #[v', .agg (msl (X.bag.getD i.toNat Ms.z)).toArray]) ∧ RWt B w0 w' v' (X.dropAt i.toNat) N H := by
 obtain ⟨K, rfl, hO, hK⟩ := h
 have hO1 := hO.perm (List.perm_append_comm (l₂ := K.M))
 have hbv := hK.bv
 have hcp : X.bag.length ≤ K.bc := SRow.fits hbv
 refine calls_of_run (F := [(0, _), (1, _)]) Try.func82 rfl Try.ntmps82 rfl rfl <| run_seq <| run_region <| rl_ow rfl (ow_box _ rfl rfl rfl rfl rfl hO1) ?_
 rintro _ w1 ⟨b2, rfl, hO2, hs3⟩
 refine rl_ow rfl (ow_alloc _ rfl rfl rfl zero_69 rfl hO2) ?_
 rintro _ w4 ⟨b4, rfl, hO5, hs6⟩
 refine rl_ow rfl (ow_alloc _ rfl rfl rfl zero_136 rfl hO5) ?_
 rintro _ w7 ⟨b5, rfl, hO8, hs9⟩
 obtain ⟨gb, hga, hrow⟩ := hbv.openS hO8 5 rfl
 have hao := hga (by omega)
 have hsrc : Src (K.M ++ H) K.ba 4 X.bag.length (cnt msl Ms.z X.bag) := Src.of_row hbv (k := 2) rfl
 have hsrc2 : Src (K.M ++ H) (if K.bc = (i + 1).toNat then some ⟨gb, 0, none⟩ else some ⟨gb, 0 + (i + 1).toNat * 4, none⟩) 4 (X.bag.length - (i + 1).toNat) (fun j => cnt msl Ms.z X.bag (j + (i + 1))) := by
  have e : (i + 1).toNat = i.toNat + 1 := by omega
  rw [hao] at hsrc
  have := hsrc.drop (i := i.toNat + 1) (ao' := if K.bc = (i + 1).toNat then some ⟨gb, 0, none⟩ else some ⟨gb, 0 + (i + 1).toNat * 4, none⟩) (by decide) (by omega) (fun h => by rw [if_neg (by omega), e])
  rw [e] at this ⊢
  rwa [show (((i.toNat + 1 : Nat) : Int)) = i + 1 by omega] at this
 refine rl_nil <| run_seq <| run_region <| rl_v rfl rfl rfl (ov_assign rfl rfl) <| rl_nil <| run_seq <| run_region <| rl_v rfl rfl rfl (ov_fieldS rfl Try.underlying69 rfl (fo := 6) rfl (by kernel_rfl) rfl) ?_
 refine rl_v rfl rfl rfl (ov_load rfl Try.underlying63 rfl rfl (by exact hO8.cellL 2 rfl rfl)) ?_
 refine rl_v rfl rfl rfl (ov_move rfl rfl) <| rl_v rfl rfl rfl (ov_index rfl Try.underlying63 (by kernel_rfl) (s := 4) rfl rfl ⟨by omega, by omega⟩ (by exact (hga (by omega)))) ?_
 refine rl_v rfl rfl rfl (ov_loadE rfl Try.underlying136 rfl (by kernel_rfl) rfl ⟨by omega, by omega⟩ rfl (hrow)) ?_
 refine rl_ow rfl (ow_alloc _ rfl rfl rfl zero_136 rfl hO8) ?_
 rintro _ w10 ⟨b7, rfl, hO11, hs12⟩
 refine rl_ow rfl (ow_storeW rfl rfl (by kernel_rfl) hO11 0 rfl rfl (by rfl) rfl (by rfl)) ?_
 rintro _ w13 ⟨rfl, hO14, hs15⟩
 have hOn := hO14.nil_cons
 refine rl_nil <| run_seq <| run_region <| rl_v rfl rfl rfl (ov_move rfl rfl) <| rl_v rfl rfl rfl (ov_fieldS rfl Try.underlying69 rfl (fo := 6) rfl (by kernel_rfl) rfl) ?_
 refine rl_v rfl rfl rfl (ov_load rfl Try.underlying63 rfl rfl (by exact hOn.cellL 4 rfl rfl)) ?_
 refine rl_v rfl rfl rfl (ov_move rfl rfl) <| rl_v rfl rfl rfl (ov_sliceH (i.toNat) (s := 4) rfl Try.underlying63 (by kernel_rfl) rfl rfl (by omega) (by omega)) ?_
 refine rl_ow rfl (ow_appSR (G := fun _ => []) rfl rfl rfl Try.underlying63 info_136 rfl rfl hOn 0 (SRow.nil _ _ _) rfl rfl rfl ((hsrc.take (by omega)).cons.cons.cons.cons.cons B w0 w13 hOn) (fun _ _ _ => cnt_len) ⟨by omega, by omega⟩) ?_
 rintro _ w16 ⟨v18, c18, rfl, hO17, hr18, hs18⟩
 refine rl_v rfl rfl rfl (ov_assign rfl rfl) <| rl_nil <| run_seq <| run_region <| rl_v rfl rfl rfl (ov_move rfl rfl) <| rl_v rfl rfl rfl (ov_fieldS rfl Try.underlying69 rfl (fo := 6) rfl (by kernel_rfl) rfl) ?_
 refine rl_v rfl rfl rfl (ov_load rfl Try.underlying63 rfl rfl (by exact hO17.cellL 4 rfl rfl)) ?_
 refine rl_v rfl rfl rfl (ov_move rfl rfl) <| rl_v rfl rfl rfl (ov_add rfl rfl rfl (by omega)) ?_
 refine rl_v rfl rfl rfl (ov_sliceL2 rfl Try.underlying63 (by kernel_rfl) (s := 4) rfl rfl ⟨by omega, by omega⟩ hao) ?_
 refine rl_ow rfl (ow_appSR rfl rfl rfl Try.underlying63 info_136 rfl rfl hO17 0 (nil_joinS hr18) rfl rfl rfl (hsrc2.cons.cons.cons.cons.cons B w0 w16 hO17) (fun _ _ _ => cnt_len) ⟨by omega, by omega⟩) ?_
 rintro _ w19 ⟨v25, c25, rfl, hO20, hr25, hs21⟩
 have hrb := dropped_row hi.1 hi.2 hr25
 obtain ⟨a25, p25, rfl⟩ := hrb.val
 refine rl_v rfl rfl rfl (ov_assign rfl rfl) <| rl_nil <| run_seq <| run_region <| rl_v rfl rfl rfl (ov_move rfl rfl) <| rl_v rfl rfl rfl (ov_fieldS rfl Try.underlying69 rfl (fo := 6) rfl (by kernel_rfl) rfl) ?_
 refine rl_ow rfl (ow_storeL rfl rfl (by kernel_rfl) hO20 4 rfl rfl rfl rfl rfl) ?_
 rintro _ w22 ⟨rfl, hO23, hs24⟩
 refine rl_nil <| run_seq <| run_held (fun w' => Own B w0 w' ([some (lch b7 136 (cnt msl Ms.z X.bag i)), some (lch b2 69 ((rwl X K).set (0 + 6) (.slice a25 (X.dropAt i.toNat).bag.length p25)))])) mixed ?_
 have hO26 := hO23.drew
 generalize World.drew w22 = w25 at hO26 ⊢
 have hS27 : Own B w0 w25 ([some (lch b7 136 (cnt msl Ms.z X.bag i)), some (lch b2 69 ((rwl X K).set (0 + 6) (.slice a25 (X.dropAt i.toNat).bag.length p25)))]) := by exact hO26.sub (.cons _ (.cons_cons _ (.cons _ (.cons _ (.cons_cons _ (List.nil_sublist _))))))
 refine rh_v 0 rfl (by kernel_rfl) rfl rfl rfl hS27 (fun _ hS => ov_loadW rfl Try.underlying69 rfl (by kernel_rfl) rfl hS 1 rfl) ?_
 refine rh_v 1 rfl (by kernel_rfl) rfl rfl rfl hS27 (fun _ hS => ov_loadW rfl Try.underlying136 rfl (by kernel_rfl) rfl hS 0 rfl) ?_
 refine rh_any1 2 (by kernel_rfl) ?_
 refine rc_op rfl rfl (ow_storeW rfl rfl (by kernel_rfl) hO26 3 rfl rfl (by rfl) rfl (by rfl)) ?_
 rintro _ w28 ⟨rfl, hO29, hs30⟩
 have hS31 : Own B w0 w28 ([some (lch b7 136 (cnt msl Ms.z X.bag i)), some (lch b2 69 ((rwl X K).set (0 + 6) (.slice a25 (X.dropAt i.toNat).bag.length p25)))]) := by exact hO29.sub (.cons _ (.cons_cons _ (.cons _ (.cons _ (.cons_cons _ (List.nil_sublist _))))))
 refine ⟨hS31, ?_⟩
 refine rh_any1 3 (by kernel_rfl) ?_
 refine rc_op rfl rfl (ow_storeW rfl rfl (by kernel_rfl) hO29 2 rfl rfl (by rfl) rfl (by rfl)) ?_
 rintro _ w32 ⟨rfl, hO33, hs34⟩
 have hS35 : Own B w0 w32 ([some (lch b7 136 (cnt msl Ms.z X.bag i)), some (lch b2 69 ((rwl X K).set (0 + 6) (.slice a25 (X.dropAt i.toNat).bag.length p25)))]) := by exact hO33.sub (.cons _ (.cons_cons _ (.cons _ (.cons _ (.cons_cons _ (List.nil_sublist _))))))
 refine ⟨hS35, ?_⟩
 have hOe := (hO33.sub (.cons_cons _ (.cons _ (.cons _ (.cons _ (.cons _ (.cons_cons _ (.cons_cons _ (.cons _ (.refl _)))))))))).perm (List.perm_middle (l₁ := [K.cd, K.ct])).symm
 refine rh_done (by kernel_rfl) ?_
 refine run_ret Try.func82 (resWW Try.results82 rfl rfl Try.underlying69 rfl (by kernel_rfl) Try.underlying136 rfl (by kernel_rfl) hO33 3 2 rfl rfl) ?_
 exact ⟨_, rfl, K.setB a25 p25 c25, rfl, hOe.perm (List.perm_append_comm (l₁ := (K.setB a25 p25 c25).M)), hK.mv, hK.gv, hK.dv, hK.tv, hrb, hK.lv⟩
end Go.Proofs.Yteagflekbbchhaa
