import Derived.Test.YteagflekbbchhaaReB
set_option maxRecDepth 100000
namespace Go.Proofs.Yteagflekbbchhaa
open Go.RowKit Go.Proofs
theorem rstate_any (X : MW) (K : RK) (d : Int) (B : Nat) (N H : List (Option Blk)) (w0 w : World) (hd : 1 ≤ d ∧ d ≤ X.deals.length) (hdn : X.deals.length ≤ 1000) (hO : Own B w0 w H) (hN : ∀ x ∈ N, x ∈ H) (hK : XIn N X K) :
  Calls Try.prog 35 #[rwv X K, iv d] w fun e w' => e = .returned (iv (if X.c.down then 0 else (X.kn d).st)) ∧ Own B w0 w' H := by
 obtain ⟨gb, hga, hrow⟩ := hK.tv.open
 refine calls_of_run (F := [(0, _), (1, _)]) Try.func35 rfl Try.ntmps35 rfl rfl <| run_seq <| run_region <| rl_ow rfl (ow_box _ rfl rfl rfl rfl rfl hO) ?_
 rintro _ w1 ⟨b2, rfl, hO2, hs3⟩
 refine rl_v rfl rfl rfl (ov_assign rfl rfl) <| rl_nil <| run_seq <| run_seq <| run_region <| rl_v rfl rfl rfl (ov_fieldS rfl Try.underlying69 rfl (fo := 7) rfl (by kernel_rfl) rfl) ?_
 refine rl_v rfl rfl rfl (ov_indexA rfl Try.underlying67 (by kernel_rfl) (s := 5) rfl rfl ⟨by omega, by omega⟩) ?_
 refine rl_v rfl rfl rfl (ov_fieldS rfl Try.underlying66 rfl (fo := 2) rfl (by kernel_rfl) rfl) ?_
 refine rl_v rfl rfl rfl (ov_load rfl Try.underlying4 rfl rfl (by exact hO2.cellL 0 rfl rfl)) ?_
 refine rl_v rfl rfl rfl (ov_move rfl rfl) ?_
 first | refine rl_split_dec 9 rfl (fun s1 => ?_) (fun s1 => ?_) | refine rl_split 9 rfl (fun s1 => ?_) (fun s1 => ?_)
 ·refine rl_gskip rfl rfl rfl rfl rfl rfl <| rl_gskip rfl rfl rfl rfl rfl rfl <| rl_v rfl rfl rfl (ov_pick_t rfl rfl rfl) <| rl_v rfl rfl rfl (ov_move rfl rfl) <| rl_gskip rfl rfl rfl rfl rfl rfl <| rl_gskip rfl rfl rfl rfl rfl rfl <| rl_gskip rfl rfl rfl rfl rfl rfl <| rl_gskip rfl rfl rfl rfl rfl rfl <| rl_gskip rfl rfl rfl rfl rfl rfl <| rl_v rfl rfl rfl (ov_pick_t rfl rfl rfl) <| rl_nil <| run_cond_t rfl <| run_seq <| run_region <| rl_v rfl rfl rfl (ov_assign rfl rfl) <| rl_nil <| run_ret Try.func35 (res1 Try.results35 rfl) ?_
  exact ⟨by rw [if_pos s1], hO2.tail⟩
 ·refine rl_gv rfl rfl rfl rfl rfl (ov_move rfl rfl) <| rl_gv rfl rfl rfl rfl rfl (ov_lss rfl rfl rfl) <| rl_v rfl rfl rfl (ov_pick_f rfl rfl rfl) <| rl_v rfl rfl rfl (ov_move rfl rfl) ?_
  first | refine rl_split_dec 13 rfl (fun s2 => ?_) (fun s2 => ?_) | refine rl_split 13 rfl (fun s2 => ?_) (fun s2 => ?_)
  ·refine rl_gskip rfl rfl rfl rfl rfl rfl <| rl_gskip rfl rfl rfl rfl rfl rfl <| rl_gskip rfl rfl rfl rfl rfl rfl <| rl_gskip rfl rfl rfl rfl rfl rfl <| rl_gskip rfl rfl rfl rfl rfl rfl <| rl_v rfl rfl rfl (ov_pick_t rfl rfl rfl) <| rl_nil <| run_cond_t rfl ?_
   exfalso; omega
  ·refine rl_gv rfl rfl rfl rfl rfl (ov_move rfl rfl) <| rl_gv rfl rfl rfl rfl rfl (ov_fieldS rfl Try.underlying69 rfl (fo := 4) rfl (by kernel_rfl) rfl) ?_
   refine rl_gv rfl rfl rfl rfl rfl (ov_load rfl Try.underlying25 rfl rfl (by exact hO2.cellL 0 rfl rfl)) ?_
   refine rl_gv rfl rfl rfl rfl rfl (ov_len rfl Try.underlying25 rfl) <| rl_gv rfl rfl rfl rfl rfl (ov_gtr rfl rfl rfl) <| rl_v rfl rfl rfl (ov_pick_f rfl rfl rfl) <| rl_nil ?_
   first | refine run_cond_dec rfl (fun k3 => ?_) (fun k3n => ?_) | refine run_cond rfl (fun k3 => ?_) (fun k3n => ?_)
   ·exfalso; omega
   ·refine run_skip <| run_seq <| run_region <| rl_v rfl rfl rfl (ov_fieldS rfl Try.underlying69 rfl (fo := 5) rfl (by kernel_rfl) rfl) ?_
    refine rl_v rfl rfl rfl (ov_load rfl Try.underlying62 rfl rfl (by exact hO2.cellL 0 rfl rfl)) ?_
    refine rl_v rfl rfl rfl (ov_move rfl rfl) <| rl_v rfl rfl rfl (ov_sub rfl rfl rfl (by omega)) ?_
    refine rl_v rfl rfl rfl (ov_index rfl Try.underlying62 (by kernel_rfl) (s := 5) rfl rfl ⟨by omega, by omega⟩ (by exact (hga (by omega)))) ?_
    refine rl_v rfl rfl rfl (ov_fieldS rfl Try.underlying127 rfl (fo := 0) rfl (by kernel_rfl) rfl) ?_
    refine rl_v rfl rfl rfl (ov_load rfl Try.underlying3 rfl rfl (by exact hrow hO2 (mem_c1 hN) (d - 1) (by omega) (by omega) 0 (by omega))) ?_
    refine rl_v rfl rfl rfl (ov_assign rfl rfl) <| rl_nil <| run_ret Try.func35 (res1 Try.results35 rfl) ?_
    exact ⟨by rw [if_neg (show ¬ X.c.down = true by rw [s1]; decide)]; show Ending.returned (iv (tks X (d - 1 + 1)).st) = _; unfold tks; rw [if_neg (show ¬ X.c.down = true by rw [s1]; decide), Int.sub_add_cancel], hO2.tail⟩
theorem node_is (n : Int) (w : World) : Calls Try.prog 85 #[iv n] w fun e w' => ∃ b : Bool, e = .returned (.bool b) ∧ (b = true ↔ N3 n) ∧ w' = w := by
 refine calls_of_run (F := [(0, _)]) Try.func85 rfl Try.ntmps85 rfl rfl ?_
 have hO0 := Own.init w
 refine run_seq <| run_region <| rl_v rfl rfl rfl (ov_assign rfl rfl) <| rl_nil <| run_seq <| run_region <| rl_v rfl rfl rfl (ov_move rfl rfl) <| rl_v rfl rfl rfl (ov_geq rfl rfl rfl) <| rl_v rfl rfl rfl (ov_move rfl rfl) ?_
 first | refine rl_split_dec 5 rfl (fun e1 => ?_) (fun e1 => ?_) | refine rl_split 5 rfl (fun e1 => ?_) (fun e1 => ?_)
 ·refine rl_gv rfl rfl rfl rfl rfl (ov_move rfl rfl) <| rl_gv rfl rfl rfl rfl rfl (ov_leq rfl rfl rfl) <| rl_v rfl rfl rfl (ov_pick_t rfl rfl rfl) <| rl_v rfl rfl rfl (ov_assign rfl rfl) <| rl_nil <| run_ret Try.func85 (res1 Try.results85 rfl) ?_
  exact ⟨_, rfl, by simp [N3]; omega, rfl⟩
 ·refine rl_gskip rfl rfl rfl rfl rfl rfl <| rl_gskip rfl rfl rfl rfl rfl rfl <| rl_v rfl rfl rfl (ov_pick_f rfl rfl rfl) <| rl_v rfl rfl rfl (ov_assign rfl rfl) <| rl_nil <| run_ret Try.func85 (res1 Try.results85 rfl) ?_
  exact ⟨_, rfl, by simp [N3]; omega, rfl⟩
theorem rw_nodes (X : MW) (K : RK) {n : Int} (hn : N3 n) : ((rwl X K).drop (0 + 7 + n.toNat * 5)).take (ncl (K.la n) (K.lp n) (X.lg n)).length = ncl (K.la n) (K.lp n) (X.lg n) := by
 rcases hn with rfl | rfl | rfl <;> rfl
theorem RK.at_ (K : RK) {n : Int} (hn : N3 n) (T : List (Option Blk)) : (K.M ++ T)[n.toNat + 3]? = some (K.lb n) := by rcases hn with rfl | rfl | rfl <;> rfl
theorem RK.set_ (K : RK) {n : Int} (hn : N3 n) (T : List (Option Blk)) (a : Option Addr) (p : Nat) (c : Option Blk) : (K.M ++ T).set (n.toNat + 3) c = (K.setL n a p c).M ++ T := by rcases hn with rfl | rfl | rfl <;> rfl
theorem RK.room {K : RK} {n : Int} (hn : N3 n) {T : List (Option Blk)} : n.toNat + 3 < (K.M ++ T).length := by
 rcases hn with rfl | rfl | rfl <;> simp [RK.M]
theorem ROk.logged' {N : List (Option Blk)} {X : MW} {K : RK} (h : ROk N X K) {n : Int} (hn : N3 n) {l : Lg} {a : Option Addr} {p : Nat} {c : Option Blk} (hr : SRow (.slice a l.recs.length p) 122 2 l.recs.length (cnt rcl (0, 0) l.recs) c)
  {ta : Option Addr} {tc : Nat} {ct : Option Blk} (ht : SRow (.slice ta X.deals.length tc) 127 5 X.deals.length (tk (X.setLg n l)) ct) : ROk N (X.setLg n l) ((K.setL n a p c).setT ta tc ct) := by
 rcases hn with rfl | rfl | rfl
 ·refine ⟨h.mv, h.gv, h.dv, ht, h.bv, fun m hm => ?_⟩
  rcases hm with rfl | rfl | rfl
  ·exact hr
  ·exact h.lv 1 (by unfold N3; omega)
  ·exact h.lv 2 (by unfold N3; omega)
 ·refine ⟨h.mv, h.gv, h.dv, ht, h.bv, fun m hm => ?_⟩
  rcases hm with rfl | rfl | rfl
  ·exact h.lv 0 (by unfold N3; omega)
  ·exact hr
  ·exact h.lv 2 (by unfold N3; omega)
 ·refine ⟨h.mv, h.gv, h.dv, ht, h.bv, fun m hm => ?_⟩
  rcases hm with rfl | rfl | rfl
  ·exact h.lv 0 (by unfold N3; omega)
  ·exact h.lv 1 (by unfold N3; omega)
  ·exact hr
theorem ROk.logged {N : List (Option Blk)} {X : MW} {K : RK} (h : ROk N X K) {n : Int} (hn : N3 n) {l : Lg} {a : Option Addr} {p : Nat} {c : Option Blk} (hr : SRow (.slice a l.recs.length p) 122 2 l.recs.length (cnt rcl (0, 0) l.recs) c)
  (ht : tk (X.setLg n l) = tk X) : ROk N (X.setLg n l) (K.setL n a p c) := by
 have := h.logged' hn hr (ta := K.ta) (tc := K.tc) (ct := K.ct) (by rw [ht]; exact h.tv)
 have e : (K.setL n a p c).setT K.ta K.tc K.ct = K.setL n a p c := by rcases hn with rfl | rfl | rfl <;> rfl
 rwa [e] at this
theorem tk_down {X Y : MW} (h1 : Y.c.down = X.c.down) (h2 : Y.kn = X.kn) : tk Y = tk X := by
 funext i; unfold tk tks; rw [h1, h2]
theorem rec_row {l : List Rc} {r : Rc} {a : Option Addr} {p : Nat} {c : Option Blk} (hr : SRow (.slice a (l.length + 1) p) 122 2 (l.length + 1) (upd (cnt rcl (0, 0) l) l.length (rcl r)) c) :
  SRow (.slice a (l ++ [r]).length p) 122 2 (l ++ [r]).length (cnt rcl (0, 0) (l ++ [r])) c := by
 have := hr.congr fun i h0 h1 => cnt_app rcl (0, 0) l r i h0 (by omega)
 rw [List.length_append]
 exact this
theorem wr_burn {l : Lg} {r : Rc} (hf : l.fuse = 1) (hsf : l.safe ≤ l.recs.length) (a : Option Addr) (p : Nat) : l.syncs = false ∧ (l.write r).down = true ∧ ncl a p (l.write r) = [.slice a (l.recs.length + 1) p, iv l.safe, .bool true, .bool true, iv 0] := by
 obtain ⟨e1, e2⟩ := Lg.write_c (l := l) r (by omega) (by omega)
 refine ⟨e2, by rw [e1], ?_⟩
 rw [e1]
 have : ¬ l.safe = (l.recs ++ [r]).length := by rw [List.length_append]; simp; omega
 simp [ncl, brnt, this, hf]
 omega
theorem wr_good {l : Lg} {r : Rc} (hf : ¬ l.fuse = 1) (h0 : 0 ≤ l.fuse) (hd : l.down = false) (a : Option Addr) (p : Nat) : l.syncs = true ∧ (l.write r).down = false ∧ ncl a p (l.write r) = [.slice a (l.recs.length + 1) p, iv ((l.recs.length + 1 : Nat) : Int), .bool l.down, .bool (brnt l), iv (max 0 (l.fuse - 1))] := by
 by_cases h : 0 < l.fuse
 ·obtain ⟨e1, e2⟩ := Lg.write_b (l := l) r h (by omega)
  refine ⟨e2, by rw [e1]; exact hd, ?_⟩
  rw [e1]
  simp [ncl, brnt, hd]
  omega
 ·obtain ⟨e1, e2⟩ := Lg.write_a (l := l) r h
  refine ⟨e2, by rw [e1]; exact hd, ?_⟩
  rw [e1]
  simp [ncl, brnt, hd]
  omega
theorem rwrite_any (X : MW) (n : Int) (r : Rc) (v : Value) (B : Nat) (N H : List (Option Blk)) (w0 w : World) (hn : N3 n) (hlen : (X.lg n).recs.length ≤ 1000000) (hfu : 0 ≤ (X.lg n).fuse ∧ (X.lg n).fuse ≤ 9223372036854775807) (hsf : (X.lg n).safe ≤ (X.lg n).recs.length) (hdw : (X.lg n).down = false) (hdn : X.deals.length ≤ 1000) (h : RWt B w0 w v X N H) :
  Calls Try.prog 90 #[v, iv n, iv r.1, iv r.2] w fun e w' => ∃ v', e = .returned (.tuple #[v', .bool (X.ok n)]) ∧ RWt B w0 w' v' (X.wr n r) N H := by
 obtain ⟨K, rfl, hO, hK⟩ := h
 have hO1 := hO.perm (List.perm_append_comm (l₂ := K.M))
 have hO2 := hO1.perm (perm_front (K.at_ hn H))
 have hlv := hK.lv n hn
 have hn0 : 0 ≤ n ∧ n ≤ 2 := by unfold N3 at hn; omega
 refine calls_of_run (F := [(0, _), (1, _), (2, _), (3, _)]) Try.func90 rfl Try.ntmps90 rfl rfl <| run_seq <| run_region <| rl_ow rfl (ow_box _ rfl rfl rfl rfl rfl hO2) ?_
 rintro _ w1 ⟨b4, rfl, hO2, hs3⟩
 refine rl_ow rfl (ow_alloc _ rfl rfl rfl zero_69 rfl hO2) ?_
 rintro _ w4 ⟨b8, rfl, hO5, hs6⟩
 refine rl_v rfl rfl rfl (ov_assign rfl rfl) <| rl_nil <| run_seq <| run_region <| rl_v rfl rfl rfl (ov_move rfl rfl) <| rl_v rfl rfl rfl (ov_fieldS rfl Try.underlying69 rfl (fo := 7) rfl (by kernel_rfl) rfl) ?_
 refine rl_v rfl rfl rfl (ov_indexA rfl Try.underlying67 (by kernel_rfl) (s := 5) rfl rfl ⟨by omega, by omega⟩) ?_
 refine rl_v rfl rfl rfl (ov_loadN rfl Try.underlying66 rfl (by kernel_rfl) rfl ((hO5.rangeT 1 rfl _ (rw_nodes X K hn)))) ?_
 refine rl_ow rfl (ow_alloc _ rfl rfl rfl zero_66 rfl hO5) ?_
 rintro _ w7 ⟨b10, rfl, hO8, hs9⟩
 refine rl_ow rfl (ow_storeW rfl rfl (by kernel_rfl) hO8 0 rfl rfl (by rfl) rfl (by rfl)) ?_
 rintro _ w10 ⟨rfl, hO11, hs12⟩
 refine rl_nil <| run_seq <| run_region <| rl_v rfl rfl rfl (ov_fieldS rfl Try.underlying66 rfl (fo := 0) rfl (by kernel_rfl) rfl) ?_
 refine rl_v rfl rfl rfl (ov_load rfl Try.underlying64 rfl rfl (by exact hO11.cellL 0 rfl rfl)) ?_
 refine rl_v rfl rfl rfl (ov_assign rfl rfl) <| rl_nil <| run_seq <| run_region <| rl_v rfl rfl rfl (ov_move rfl rfl) <| rl_v rfl rfl rfl (ov_move rfl rfl) <| rl_v rfl rfl rfl (ov_move rfl rfl) <| rl_v rfl rfl rfl (ov_buildL rfl lay_122 rfl (us := [_, _]) rfl) <| rl_ow rfl (ow_build [_] rfl rfl rfl rfl rfl Try.underlying64 info_122 (by decide) hO11 rfl rfl) ?_
 rintro _ w13 ⟨b22, rfl, hO14, hs15⟩
 refine rl_ow rfl (ow_appR1 rfl rfl rfl Try.underlying64 info_122 rfl rfl hO14 3 hlv rfl rfl rfl rfl rfl ⟨by omega, by omega⟩) ?_
 rintro _ w16 ⟨v23, c23, rfl, hO17, hr23, hs18⟩
 obtain ⟨a23, p23, rfl⟩ := hr23.val
 refine rl_v rfl rfl rfl (ov_assign rfl rfl) <| rl_nil <| run_seq <| run_region <| rl_v rfl rfl rfl (ov_move rfl rfl) <| rl_v rfl rfl rfl (ov_fieldS rfl Try.underlying66 rfl (fo := 0) rfl (by kernel_rfl) rfl) ?_
 refine rl_ow rfl (ow_storeL rfl rfl (by kernel_rfl) hO17 0 rfl rfl rfl rfl rfl) ?_
 rintro _ w19 ⟨rfl, hO20, hs21⟩
 have hrr := rec_row hr23
 rw [← Lg.write_recs] at hrr
 refine rl_nil <| run_seq <| run_seq <| run_region <| rl_v rfl rfl rfl (ov_fieldS rfl Try.underlying66 rfl (fo := 4) rfl (by kernel_rfl) rfl) ?_
 refine rl_v rfl rfl rfl (ov_load rfl Try.underlying3 rfl rfl (by exact hO20.cellL 0 rfl rfl)) ?_
 refine rl_v rfl rfl rfl (ov_eql rfl rfl rfl) <| rl_nil ?_
 first | refine run_cond_dec rfl (fun f1 => ?_) (fun f2 => ?_) | refine run_cond rfl (fun f1 => ?_) (fun f2 => ?_)
 ·obtain ⟨g1, g2, g3⟩ := wr_burn (r := r) f1 hsf a23 p23
  have hput := rw_put X K hn a23 p23 c23 ((X.lg n).write r)
  have hrm := rw_room5 (X := X) (K := K) hn (a := a23) (p := p23) (l := (X.lg n).write r)
  rw [g3] at hput hrm
  refine run_seq <| run_region <| rl_v rfl rfl rfl (ov_fieldS rfl Try.underlying66 rfl (fo := 4) rfl (by kernel_rfl) rfl) ?_
  refine rl_ow rfl (ow_storeL rfl rfl (by kernel_rfl) hO20 0 rfl rfl rfl rfl rfl) ?_
  rintro _ w22 ⟨rfl, hO23, hs24⟩
  refine rl_nil <| run_seq <| run_region <| rl_v rfl rfl rfl (ov_fieldS rfl Try.underlying66 rfl (fo := 2) rfl (by kernel_rfl) rfl) ?_
  refine rl_ow rfl (ow_storeL rfl rfl (by kernel_rfl) hO23 0 rfl rfl rfl rfl rfl) ?_
  rintro _ w25 ⟨rfl, hO26, hs27⟩
  refine rl_nil <| run_seq <| run_region <| rl_v rfl rfl rfl (ov_fieldS rfl Try.underlying66 rfl (fo := 3) rfl (by kernel_rfl) rfl) ?_
  refine rl_ow rfl (ow_storeL rfl rfl (by kernel_rfl) hO26 0 rfl rfl rfl rfl rfl) ?_
  rintro _ w28 ⟨rfl, hO29, hs30⟩
  refine rl_nil <| run_seq <| run_region <| rl_v rfl rfl rfl (ov_move rfl rfl) <| rl_v rfl rfl rfl (ov_loadW rfl Try.underlying66 rfl (by kernel_rfl) rfl hO29 0 rfl) ?_
  refine rl_v rfl rfl rfl (ov_fieldS rfl Try.underlying69 rfl (fo := 7) rfl (by kernel_rfl) rfl) ?_
  refine rl_v rfl rfl rfl (ov_indexA rfl Try.underlying67 (by kernel_rfl) (s := 5) rfl rfl ⟨by omega, by omega⟩) ?_
  refine rl_ow rfl (ow_storeP (us := [.slice a23 ((X.lg n).recs.length + 1) p23, iv (X.lg n).safe, .bool true, .bool true, iv 0]) rfl rfl (by kernel_rfl) hO29 2 rfl rfl hrm rfl rfl hput) ?_
  rintro _ w31 ⟨rfl, hO32, hs33⟩
  refine rl_nil <| run_seq <| run_seq <| run_region <| rl_v rfl rfl rfl (ov_move rfl rfl) <| rl_v rfl rfl rfl (ov_eql rfl rfl rfl) <| rl_nil ?_
  first | refine run_cond_dec rfl (fun z1 => ?_) (fun z2 => ?_) | refine run_cond rfl (fun z1 => ?_) (fun z2 => ?_)
  ·subst z1
   have e38 : (X.setLg 0 ((X.lg 0).write r)).deals.length = X.deals.length := rfl
   refine run_region <| rl_v rfl rfl rfl (ov_fieldS rfl Try.underlying69 rfl (fo := 5) rfl (by kernel_rfl) rfl) ?_
   refine rl_v rfl rfl rfl (ov_load rfl Try.underlying62 rfl rfl (by exact hO32.cellL 2 rfl rfl)) ?_
   refine rl_v rfl rfl rfl (ov_len rfl Try.underlying62 rfl) <| rl_ow rfl (ow_makeS X.deals.length (tkl Ds.z) rfl rfl rfl Try.underlying62 info_127 rfl rfl hO32 rfl rfl rfl rfl ⟨by omega, by omega⟩) ?_
   rintro _ w34 ⟨b41, c41, rfl, hO35, hr41, hs36⟩
   refine rl_v rfl rfl rfl (ov_fieldS rfl Try.underlying69 rfl (fo := 5) rfl (by kernel_rfl) rfl) ?_
   refine rl_ow rfl (ow_storeL rfl rfl (by kernel_rfl) hO35 3 rfl rfl rfl rfl rfl) ?_
   rintro _ w37 ⟨rfl, hO38, hs39⟩
   refine rl_nil <| run_seq <| run_region <| rl_v rfl rfl rfl (ov_loadW rfl Try.underlying69 rfl (by kernel_rfl) rfl hO38 3 rfl) ?_
   refine rl_ow rfl (ow_storeW rfl rfl (by kernel_rfl) hO38 2 rfl rfl (by rfl) rfl (by rfl)) ?_
   rintro _ w40 ⟨rfl, hO41, hs42⟩
   have htk : SRow (.slice (some ⟨b41, 0, none⟩) X.deals.length X.deals.length) 127 5 X.deals.length (tk (X.setLg 0 ((X.lg 0).write r))) c41 := hr41.congr fun i _ _ => by
    unfold tk tks
    rw [if_pos (show (X.setLg 0 ((X.lg 0).write r)).c.down = true from g2)]
   have hOe := (hO41.sub (.cons_cons _ (.cons _ (.cons _ (.cons _ (.refl _)))))).perm ((perm_back c23 (RK.room (K := K) hn (T := H))).cons c41)
   rw [K.set_ hn H a23 p23] at hOe
   have hOf := (hOe.swap.sub (.cons_cons _ (.cons_cons _ (.cons _ (.refl _))))).perm (List.perm_append_comm (l₁ := ((K.setL 0 a23 p23 c23).setT (some ⟨b41, 0, none⟩) X.deals.length c41).M))
   refine rl_v rfl rfl rfl (ov_assign rfl rfl) <| rl_nil <| run_ret Try.func90 (resW2 Try.results90 rfl rfl Try.underlying69 rfl (by kernel_rfl) hO41 2 rfl) ?_
   exact ⟨_, by rw [show X.ok 0 = false from g1]; rfl, (K.setL 0 a23 p23 c23).setT (some ⟨b41, 0, none⟩) X.deals.length c41, rfl, hOf, hK.logged' hn hrr htk⟩
  ·refine run_skip <| run_seq <| run_region <| rl_v rfl rfl rfl (ov_loadW rfl Try.underlying69 rfl (by kernel_rfl) rfl hO32 2 rfl) ?_
   refine rl_ow rfl (ow_storeW rfl rfl (by kernel_rfl) hO32 1 rfl rfl (by rfl) rfl (by rfl)) ?_
   rintro _ w43 ⟨rfl, hO44, hs45⟩
   have hOe := hO44.tail.tail.tail.perm (perm_back c23 (RK.room (K := K) hn (T := H)))
   rw [K.set_ hn H a23 p23] at hOe
   refine rl_v rfl rfl rfl (ov_assign rfl rfl) <| rl_nil <| run_ret Try.func90 (resW2 Try.results90 rfl rfl Try.underlying69 rfl (by kernel_rfl) hO44 1 rfl) ?_
   exact ⟨_, by rw [show X.ok n = false from g1]; rfl, K.setL n a23 p23 c23, rfl, hOe.perm (List.perm_append_comm (l₁ := (K.setL n a23 p23 c23).M)), hK.logged hn hrr (tk_down (by rw [setLg_c z2]) (setLg_kn _ _ _))⟩
 ·obtain ⟨g1, g2, g3⟩ := wr_good (r := r) f2 hfu.1 hdw a23 p23
  have hput := rw_put X K hn a23 p23 c23 ((X.lg n).write r)
  have hrm := rw_room5 (X := X) (K := K) hn (a := a23) (p := p23) (l := (X.lg n).write r)
  rw [g3] at hput hrm
  refine run_skip <| run_seq <| run_region <| rl_v rfl rfl rfl (ov_fieldS rfl Try.underlying66 rfl (fo := 4) rfl (by kernel_rfl) rfl) ?_
  refine rl_v rfl rfl rfl (ov_load rfl Try.underlying3 rfl rfl (by exact hO20.cellL 0 rfl rfl)) ?_
  refine rl_v rfl rfl rfl (ov_sub rfl rfl rfl (by omega)) ?_
  refine rl_v rfl rfl rfl (ov_max rfl rfl rfl) <| rl_v rfl rfl rfl (ov_fieldS rfl Try.underlying66 rfl (fo := 4) rfl (by kernel_rfl) rfl) ?_
  refine rl_ow rfl (ow_storeL rfl rfl (by kernel_rfl) hO20 0 rfl rfl rfl rfl rfl) ?_
  rintro _ w46 ⟨rfl, hO47, hs48⟩
  refine rl_nil <| run_seq <| run_region <| rl_v rfl rfl rfl (ov_fieldS rfl Try.underlying66 rfl (fo := 0) rfl (by kernel_rfl) rfl) ?_
  refine rl_v rfl rfl rfl (ov_load rfl Try.underlying64 rfl rfl (by exact hO47.cellL 0 rfl rfl)) ?_
  refine rl_v rfl rfl rfl (ov_len rfl Try.underlying64 rfl) <| rl_v rfl rfl rfl (ov_fieldS rfl Try.underlying66 rfl (fo := 1) rfl (by kernel_rfl) rfl) ?_
  refine rl_ow rfl (ow_storeL rfl rfl (by kernel_rfl) hO47 0 rfl rfl rfl rfl rfl) ?_
  rintro _ w49 ⟨rfl, hO50, hs51⟩
  refine rl_nil <| run_seq <| run_region <| rl_v rfl rfl rfl (ov_move rfl rfl) <| rl_v rfl rfl rfl (ov_loadW rfl Try.underlying66 rfl (by kernel_rfl) rfl hO50 0 rfl) ?_
  refine rl_v rfl rfl rfl (ov_fieldS rfl Try.underlying69 rfl (fo := 7) rfl (by kernel_rfl) rfl) ?_
  refine rl_v rfl rfl rfl (ov_indexA rfl Try.underlying67 (by kernel_rfl) (s := 5) rfl rfl ⟨by omega, by omega⟩) ?_
  refine rl_ow rfl (ow_storeP (us := [.slice a23 ((X.lg n).recs.length + 1) p23, iv (((X.lg n).recs.length + 1 : Nat) : Int), .bool (X.lg n).down, .bool (brnt (X.lg n)), iv (max 0 ((X.lg n).fuse - 1))]) rfl rfl (by kernel_rfl) hO50 2 rfl rfl hrm rfl rfl hput) ?_
  rintro _ w52 ⟨rfl, hO53, hs54⟩
  refine rl_nil <| run_seq <| run_region <| rl_v rfl rfl rfl (ov_loadW rfl Try.underlying69 rfl (by kernel_rfl) rfl hO53 2 rfl) ?_
  refine rl_ow rfl (ow_storeW rfl rfl (by kernel_rfl) hO53 1 rfl rfl (by rfl) rfl (by rfl)) ?_
  rintro _ w55 ⟨rfl, hO56, hs57⟩
  have hOe := hO56.tail.tail.tail.perm (perm_back c23 (RK.room (K := K) hn (T := H)))
  rw [K.set_ hn H a23 p23] at hOe
  have hcd : (X.setLg n ((X.lg n).write r)).c.down = X.c.down := by
   by_cases e : n = 0
   ·subst e; exact g2.trans (show false = X.c.down from hdw.symm)
   ·rw [setLg_c e]
  refine rl_v rfl rfl rfl (ov_assign rfl rfl) <| rl_nil <| run_ret Try.func90 (resW2 Try.results90 rfl rfl Try.underlying69 rfl (by kernel_rfl) hO56 1 rfl) ?_
  exact ⟨_, by rw [show X.ok n = true from g1]; rfl, K.setL n a23 p23 c23, rfl, hOe.perm (List.perm_append_comm (l₁ := (K.setL n a23 p23 c23).M)), hK.logged hn hrr (tk_down hcd (setLg_kn _ _ _))⟩
end Go.Proofs.Yteagflekbbchhaa
