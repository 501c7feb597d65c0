import Derived.Test.YtbepolognfdkeaaGcF
set_option maxRecDepth 100000
namespace Go.Proofs.Ytbepolognfdkeaa
open Go.RowKit Go.Proofs Go.MapKept
theorem Lds.own_short (l : Lds) (most : Nat) : (l.own most true).Short := fun _ _ _ => rfl
set_option maxHeartbeats 4000000 in
theorem early7_any (la : Option Addr) (lc : Nat) (l : Lds) (kilns : Int) (w : World) (hc : l.n ≤ lc) (hI : l.I64) (hl : SAt w.heap.size w la 4 l.n (ldF l)) :
  Calls Try.prog 12 #[.slice la l.n lc, iv kilns] w fun e w' => e = .returned (.bool true) ∧ Below w.heap.size w w' := by
 obtain ⟨k, hk⟩ : ∃ k, k = 1 + kilns % 18446744073709551616 % 4 := ⟨_, rfl⟩
 have hm := modsD (x := kilns) (m := 4) ⟨by decide, by decide⟩
 obtain ⟨o, ho⟩ : ∃ o, o = l.own 20 true := ⟨_, rfl⟩
 have hV : o.Valid := ho ▸ l.own_valid 20 true
 have hn : o.n ≤ 20 := ho ▸ l.own_le 20 true
 have hsh : o.Short := ho ▸ l.own_short 20
 have hkk : o.chkK k = 0 := Lds.chkK_ok (by omega) hV (by omega)
 obtain ⟨g, hg⟩ : ∃ g, g = l.own 20 false := ⟨_, rfl⟩
 have hVg : g.Valid := hg ▸ l.own_valid 20 false
 have hng : g.n ≤ 20 := hg ▸ l.own_le 20 false
 have hkg : g.chkK k = 0 := Lds.chkK_ok (by omega) hVg (by omega)
 have hcan : o.Can k ↔ CanM o k fun _ => True := hsh.can hV (by omega)
 refine calls_of_run (F := [(0, _), (1, _)]) Try.func12 rfl Try.ntmps12 rfl rfl ?_
 have hO0 := Own.init w
 refine run_seq <| run_region <| rl_v rfl rfl rfl (ov_assign rfl rfl) <| rl_nil <| run_seq <| run_region <| rl_v rfl rfl rfl (ov_move rfl rfl) <| rl_v rfl rfl rfl (ov_conv rfl Try.underlying3 Try.underlying33 rfl) <| rl_v rfl rfl rfl (ov_rem rfl rfl rfl (u64_nnD _) (by omega)) ?_
 refine rl_v rfl rfl rfl (ov_convTo (hm.1) rfl Try.underlying33 Try.underlying3 rfl) <| rl_v rfl rfl rfl (ov_add rfl rfl rfl (by omega)) ?_
 refine rl_v rfl rfl rfl (ov_assign rfl rfl) <| rl_nil <| run_seq <| run_region <| rl_v rfl rfl rfl (ov_move rfl rfl) ?_
 refine rl_call callable_13 rfl rfl rfl rfl rfl rfl (own7_any la lc l 20 false _ hc (by decide) hI (hO0.satU hl)) (fun e1 w2 hp3 => ?_)
 obtain ⟨va, vc, c, rfl, hr, hOa⟩ := hp3
 refine ⟨_, rfl, ?_⟩
 have hO4 := hO0.join hOa
 rw [← hg] at hr ⊢
 rw [← hk]
 refine rl_v rfl rfl rfl (ov_assign rfl rfl) <| rl_nil <| run_seq <| run_seq <| run_region <| rl_v rfl rfl rfl (ov_move rfl rfl) ?_
 refine rl_call callable_35 rfl rfl rfl rfl rfl rfl (short7_any va vc g _ (by omega) (hr.reads hO4 0 rfl)) (fun e5 w6 hp7 => ?_)
 obtain ⟨rfl, hOb⟩ := hp7
 refine ⟨_, rfl, ?_⟩
 have hO8 := hO4.join hOb
 refine rl_v rfl rfl rfl (ov_not rfl rfl) <| rl_nil <| Run.keep [0, 5, 6, 28] (F' := [(0, _), (5, _), (6, _), (28, _)]) rfl <| run_join1 (fun (z : Nat) => []) [0, 5] (fun (z : Nat) (w9 : World) => Own w.heap.size w w9 []) (fun hk10 => ?_) ?_
 ·first | refine run_cond_dec rfl (fun c1 => ?_) (fun c1 => ?_) | refine run_cond rfl (fun c1 => ?_) (fun c1 => ?_)
  ·have c1' : ¬ g.Short := by simpa using c1
   have hE1 : g.earE k = 7 := by unfold Lds.earE; rw [if_pos hkg, if_neg c1']
   have hE2 : g.bestE k = 7 := by unfold Lds.bestE; rw [if_pos hkg, if_neg c1']
   refine run_seq <| run_region <| rl_v rfl rfl rfl (ov_move rfl rfl) ?_
   refine rl_call callable_15 rfl rfl rfl rfl rfl rfl (give7_any va vc g _ (by omega) (hr.reads hO8 0 rfl)) (fun e11 w12 hp13 => ?_)
   obtain ⟨xa, xc, cx, rfl, hx, hOc⟩ := hp13
   refine ⟨_, rfl, ?_⟩
   have hO14 := hO8.join hOc
   refine rl_v rfl rfl rfl (ov_move rfl rfl) ?_
   refine rl_call callable_34 rfl rfl rfl rfl rfl rfl (Early_any xa xc g k _ (by omega) (fun _ => hng) hVg.i64 (hx.reads hO14 0 rfl)) (fun e15 w16 hp17 => ?_)
   obtain ⟨oa, on, oc, out, co, rfl, _, _, hz1, hOd⟩ := hp17
   refine ⟨_, rfl, ?_⟩
   have hO18 := hO14.join hOd
   refine rl_v rfl rfl rfl (ov_move rfl rfl) <| rl_v rfl rfl rfl (ov_extract rfl rfl (by rfl)) ?_
   refine rl_v rfl rfl rfl (ov_extract rfl rfl (by rfl)) ?_
   refine rl_v rfl rfl rfl (ov_assign rfl rfl) <| rl_v rfl rfl rfl (ov_assign rfl rfl) <| rl_nil <| run_seq <| run_region <| rl_v rfl rfl rfl (ov_move rfl rfl) ?_
   refine rl_call callable_15 rfl rfl rfl rfl rfl rfl (give7_any va vc g _ (by omega) (hr.reads hO18 2 rfl)) (fun e19 w20 hp21 => ?_)
   obtain ⟨xa, xc, cx, rfl, hx, hOc⟩ := hp21
   refine ⟨_, rfl, ?_⟩
   have hO22 := hO18.join hOc
   refine rl_v rfl rfl rfl (ov_move rfl rfl) ?_
   refine rl_call callable_30 rfl rfl rfl rfl rfl rfl (Best_any xa xc g k _ (by omega) (fun _ => hng) hVg.i64 (hx.reads hO22 0 rfl)) (fun e23 w24 hp25 => ?_)
   obtain ⟨ba, bn, bc, Y, s, cb, rfl, _, _, hz2, hOe⟩ := hp25
   refine ⟨_, rfl, ?_⟩
   have hO26 := hO22.join hOe
   have hz1' := hz1 (by rw [hE1]; decide)
   obtain ⟨hz2', hz3'⟩ := hz2 (by rw [hE2]; decide)
   subst hz1' hz2' hz3'
   rw [hE1, hE2]
   refine rl_v rfl rfl rfl (ov_move rfl rfl) <| rl_v rfl rfl rfl (ov_extract rfl rfl (by rfl)) ?_
   refine rl_v rfl rfl rfl (ov_extract rfl rfl (by rfl)) ?_
   refine rl_v rfl rfl rfl (ov_extract rfl rfl (by rfl)) ?_
   refine rl_v rfl rfl rfl (ov_assign rfl rfl) <| rl_v rfl rfl rfl (ov_assign rfl rfl) <| rl_v rfl rfl rfl (ov_assign rfl rfl) <| rl_nil <| run_seq <| run_region <| rl_v rfl rfl rfl (ov_move rfl rfl) <| rl_v rfl rfl rfl (ov_neq rfl rfl rfl) <| rl_v rfl rfl rfl (ov_move rfl rfl) ?_
   first | refine rl_noD 46 rfl (by decide) ?_ | refine rl_no 46 rfl (by decide) ?_
   refine rl_gv rfl rfl rfl rfl rfl (ov_move rfl rfl) <| rl_gv rfl rfl rfl rfl rfl (ov_neq rfl rfl rfl) <| rl_v rfl rfl rfl (ov_pick_f rfl rfl rfl) <| rl_v rfl rfl rfl (ov_move rfl rfl) ?_
   first | refine rl_noD 50 rfl (by decide) ?_ | refine rl_no 50 rfl (by decide) ?_
   refine rl_gv rfl rfl rfl rfl rfl (ov_move rfl rfl) <| rl_gv rfl rfl rfl rfl rfl (ov_len rfl Try.underlying47 rfl) <| rl_gv rfl rfl rfl rfl rfl (ov_neq rfl rfl rfl) <| rl_v rfl rfl rfl (ov_pick_f rfl rfl rfl) <| rl_v rfl rfl rfl (ov_move rfl rfl) ?_
   first | refine rl_noD 55 rfl (by decide) ?_ | refine rl_no 55 rfl (by decide) ?_
   refine rl_gv rfl rfl rfl rfl rfl (ov_move rfl rfl) <| rl_gv rfl rfl rfl rfl rfl (ov_len rfl Try.underlying47 rfl) <| rl_gv rfl rfl rfl rfl rfl (ov_neq rfl rfl rfl) <| rl_v rfl rfl rfl (ov_pick_f rfl rfl rfl) <| rl_v rfl rfl rfl (ov_move rfl rfl) ?_
   first | refine rl_noD 60 rfl (by decide) ?_ | refine rl_no 60 rfl (by decide) ?_
   refine rl_gv rfl rfl rfl rfl rfl (ov_move rfl rfl) <| rl_gv rfl rfl rfl rfl rfl (ov_neq rfl rfl rfl) <| rl_v rfl rfl rfl (ov_pick_f rfl rfl rfl) <| rl_nil ?_
   first | refine run_cond_dec rfl (fun c2 => ?_) (fun c2 => ?_) | refine run_cond rfl (fun c2 => ?_) (fun c2 => ?_)
   ·exfalso; exact c2 rfl
   ·refine run_skip ?_
    refine Run.use (hk10 (0) _ ?_) (And.intro rfl (And.intro rfl trivial))
    exact hO26.sub (List.nil_sublist _)
  ·refine run_skip ?_
   refine Run.use (hk10 (0) _ ?_) (And.intro rfl (And.intro rfl trivial))
   exact hO8.sub (List.nil_sublist _)
 ·intro z w9 hJw9
  have hOz := hJw9
  show Run _ _ _ _ [(0, _), (5, _)] _ _
  refine run_seq <| run_region <| rl_v rfl rfl rfl (ov_move rfl rfl) ?_
  refine rl_call callable_13 rfl rfl rfl rfl rfl rfl (own7_any la lc l 20 true _ hc (by decide) hI (hOz.satU hl)) (fun e27 w28 hp29 => ?_)
  obtain ⟨va, vc, c, rfl, hr, hOa⟩ := hp29
  refine ⟨_, rfl, ?_⟩
  have hO30 := hOz.join hOa
  rw [← ho] at hr ⊢
  refine rl_v rfl rfl rfl (ov_assign rfl rfl) <| rl_nil <| run_seq <| run_region <| rl_v rfl rfl rfl (ov_move rfl rfl) ?_
  refine rl_call callable_15 rfl rfl rfl rfl rfl rfl (give7_any va vc o _ (by omega) (hr.reads hO30 0 rfl)) (fun e31 w32 hp33 => ?_)
  obtain ⟨xa, xc, cx, rfl, hx, hOc⟩ := hp33
  refine ⟨_, rfl, ?_⟩
  have hO34 := hO30.join hOc
  refine rl_v rfl rfl rfl (ov_move rfl rfl) ?_
  refine rl_call callable_34 rfl rfl rfl rfl rfl rfl (Early_any xa xc o k _ (by omega) (fun _ => hn) hV.i64 (hx.reads hO34 0 rfl)) (fun e35 w36 hp37 => ?_)
  obtain ⟨oa, on, oc, out, co, rfl, hro, hy1, hz1, hOd⟩ := hp37
  refine ⟨_, rfl, ?_⟩
  have hO38 := hO34.join hOd
  refine rl_v rfl rfl rfl (ov_move rfl rfl) <| rl_v rfl rfl rfl (ov_extract rfl rfl (by rfl)) ?_
  refine rl_v rfl rfl rfl (ov_extract rfl rfl (by rfl)) ?_
  refine rl_v rfl rfl rfl (ov_assign rfl rfl) <| rl_v rfl rfl rfl (ov_assign rfl rfl) <| rl_nil <| run_seq <| run_region <| rl_v rfl rfl rfl (ov_move rfl rfl) <| rl_v rfl rfl rfl (ov_move rfl rfl) <| rl_v rfl rfl rfl (ov_move rfl rfl) <| rl_v rfl rfl rfl (ov_len rfl Try.underlying22 rfl) ?_
  refine rl_call callable_37 rfl rfl rfl rfl rfl rfl (all7_any o.n _ (by omega)) (fun e39 w40 hp41 => ?_)
  obtain ⟨ab, rfl, hOe⟩ := hp41
  refine ⟨_, rfl, ?_⟩
  have hO42 := hO38.join hOe
  refine rl_call callable_36 rfl rfl rfl rfl rfl rfl (refEarly_any va vc o k (some ⟨ab, 0, none⟩) o.n (fun _ => true) _ (by omega) hV (by omega) (hr.reads hO42 3 rfl) (hO42.reads 0 rfl o.n (Nat.le_refl _))) (fun e43 w44 hp45 => ?_)
  obtain ⟨ra, rn, rc, out2, cr, rfl, hrr, hy2, hz2, hOf⟩ := hp45
  refine ⟨_, rfl, ?_⟩
  have hO46 := hO42.join hOf
  have hcT : CanM o k (fun i => (fun _ : Int => true) i = true) ↔ CanM o k fun _ => True := CanM.congr fun i _ _ => ⟨fun _ => trivial, fun _ => rfl⟩
  refine rl_v rfl rfl rfl (ov_move rfl rfl) <| rl_v rfl rfl rfl (ov_extract rfl rfl (by rfl)) ?_
  refine rl_v rfl rfl rfl (ov_extract rfl rfl (by rfl)) ?_
  refine rl_v rfl rfl rfl (ov_assign rfl rfl) <| rl_v rfl rfl rfl (ov_assign rfl rfl) <| rl_nil <| run_seq <| run_region <| rl_v rfl rfl rfl (ov_move rfl rfl) ?_
  refine rl_call callable_15 rfl rfl rfl rfl rfl rfl (give7_any va vc o _ (by omega) (hr.reads hO46 4 rfl)) (fun e47 w48 hp49 => ?_)
  obtain ⟨xa, xc, cx, rfl, hx, hOc⟩ := hp49
  refine ⟨_, rfl, ?_⟩
  have hO50 := hO46.join hOc
  refine rl_v rfl rfl rfl (ov_move rfl rfl) ?_
  refine rl_call callable_18 rfl rfl rfl rfl rfl rfl (Fits_any xa xc o k _ (by omega) hV.i64 (hx.reads hO50 0 rfl)) (fun e51 w52 hp53 => ?_)
  obtain ⟨rfl, hOg⟩ := hp53
  refine ⟨_, rfl, ?_⟩
  have hO54 := hO50.join hOg
  have hd1 : decide (o.chkK k = 0 ∧ o.Can k) = decide (CanM o k fun i => (fun _ : Int => true) i = true) := decide_eq_decide.2 ⟨fun h => hcT.2 (hcan.1 h.2), fun h => ⟨hkk, hcan.2 (hcT.1 h)⟩⟩
  rw [hkk]
  refine rl_v rfl rfl rfl (ov_move rfl rfl) <| rl_v rfl rfl rfl (ov_extract rfl rfl (by rfl)) ?_
  refine rl_v rfl rfl rfl (ov_extract rfl rfl (by rfl)) ?_
  refine rl_v rfl rfl rfl (ov_assign rfl rfl) <| rl_v rfl rfl rfl (ov_assign rfl rfl) <| rl_nil <| run_seq <| run_seq <| run_region <| rl_v rfl rfl rfl (ov_move rfl rfl) <| rl_v rfl rfl rfl (ov_neq rfl rfl rfl) <| rl_v rfl rfl rfl (ov_move rfl rfl) ?_
  first | refine rl_noD 91 rfl (by decide) ?_ | refine rl_no 91 rfl (by decide) ?_
  refine rl_gv rfl rfl rfl rfl rfl (ov_move rfl rfl) <| rl_gv rfl rfl rfl rfl rfl (ov_move rfl rfl) <| rl_gv rfl rfl rfl rfl rfl (ov_neqB7 rfl Try.underlying4 rfl rfl) <| rl_v rfl rfl rfl (ov_pick_f rfl rfl rfl) <| rl_nil ?_
  first | refine run_cond_dec rfl (fun c3 => ?_) (fun c3 => ?_) | refine run_cond rfl (fun c3 => ?_) (fun c3 => ?_)
  ·exfalso; exact c3 (by rw [← hd1, hkk])
  ·refine run_skip <| run_seq <| run_seq <| run_region <| rl_v rfl rfl rfl (ov_move rfl rfl) <| rl_v rfl rfl rfl (ov_not rfl rfl) <| rl_nil ?_
   first | refine run_cond_dec rfl (fun c4 => ?_) (fun c4 => ?_) | refine run_cond rfl (fun c4 => ?_) (fun c4 => ?_)
   ·have hno : ¬ CanM o k (fun i => (fun _ : Int => true) i = true) := by simpa using c4
    have hno1 : ¬ CanM o k (fun _ => True) := fun h => hno (hcT.2 h)
    have hE : o.earE k = 70 := by unfold Lds.earE; rw [if_pos hkk, if_pos hsh, if_neg hno1]
    have hon := hz1 (by rw [hE]; decide)
    subst hon
    rw [hE]
    refine run_seq <| run_region <| rl_v rfl rfl rfl (ov_move rfl rfl) <| rl_v rfl rfl rfl (ov_eql rfl rfl rfl) <| rl_v rfl rfl rfl (ov_move rfl rfl) ?_
    first | refine rl_yesD 100 rfl (rfl) ?_ | refine rl_yes 100 rfl (rfl) ?_
    refine rl_gv rfl rfl rfl rfl rfl (ov_move rfl rfl) <| rl_gv rfl rfl rfl rfl rfl (ov_len rfl Try.underlying47 rfl) <| rl_gv rfl rfl rfl rfl rfl (ov_eql rfl rfl rfl) <| rl_v rfl rfl rfl (ov_pick_t rfl rfl rfl) <| rl_v rfl rfl rfl (ov_move rfl rfl) ?_
    first | refine rl_yesD 105 rfl (rfl) ?_ | refine rl_yes 105 rfl (rfl) ?_
    refine rl_gcall callable_17 rfl rfl rfl rfl rfl rfl rfl rfl (awake7_any _) (fun e55 w56 hp57 => ?_)
    obtain ⟨rfl, hOh⟩ := hp57
    refine ⟨_, rfl, ?_⟩
    have hO58 := hO54.join hOh
    refine rl_v rfl rfl rfl (ov_pick_t rfl rfl rfl) <| rl_v rfl rfl rfl (ov_assign rfl rfl) <| rl_nil <| run_ret Try.func12 (res1 Try.results12 rfl) ?_
    exact ⟨rfl, hO58.below⟩
   ·have hyes : CanM o k (fun i => (fun _ : Int => true) i = true) := by simpa using c4
    have hE : o.earE k = 0 := by unfold Lds.earE; rw [if_pos hkk, if_pos hsh, if_pos (hcT.1 hyes)]
    obtain ⟨rfl, hF1⟩ := hy1 hE
    obtain ⟨rfl, hF2⟩ := hy2 hyes
    have hF3 : EdF o k (fun _ => True) out2 := ⟨fun i i0 i1 _ => hF2.rng i i0 i1 rfl, fun i i0 i1 h => absurd trivial h, fun s s0 => by
     refine Int.le_trans (Int.le_of_eq (sm_congr fun j _ _ => ind_congr ⟨fun q => ⟨rfl, q.2⟩, fun q => ⟨trivial, q.2⟩⟩)) (hF2.cap s s0), fun i s i0 i1 _ s0 h1 h2 => by
     obtain ⟨a, b⟩ := hF2.full i s i0 i1 rfl s0 h1 h2
     exact ⟨(sm_congr fun j _ _ => ind_congr ⟨fun q => ⟨rfl, q.2⟩, fun q => ⟨trivial, q.2⟩⟩ : cntE o (fun _ => True) out2 s = cntE o (fun i => (fun _ : Int => true) i = true) out2 s).trans a, fun j j0 j1 _ e => b j j0 j1 rfl e⟩⟩
    have huq := hF1.uniq hF3 hV
    rw [hE]
    refine run_skip <| run_seq <| run_region <| rl_v rfl rfl rfl (ov_move rfl rfl) <| rl_v rfl rfl rfl (ov_eql rfl rfl rfl) <| rl_v rfl rfl rfl (ov_move rfl rfl) ?_
    first | refine rl_yesD 110 rfl (rfl) ?_ | refine rl_yes 110 rfl (rfl) ?_
    refine rl_gv rfl rfl rfl rfl rfl (ov_move rfl rfl) <| rl_gv rfl rfl rfl rfl rfl (ov_move rfl rfl) ?_
    refine rl_gcall callable_32 rfl rfl rfl rfl rfl rfl rfl rfl (ints7_any oa ra o.n oc o.n rc out out2 _ (hro.reads hO54 3 rfl) (hrr.reads hO54 1 rfl) (by omega) rfl huq) (fun e59 w60 hp61 => ?_)
    obtain ⟨rfl, hOh⟩ := hp61
    refine ⟨_, rfl, ?_⟩
    have hO62 := hO54.join hOh
    refine rl_v rfl rfl rfl (ov_pick_t rfl rfl rfl) <| rl_v rfl rfl rfl (ov_move rfl rfl) ?_
    first | refine rl_yesD 115 rfl (rfl) ?_ | refine rl_yes 115 rfl (rfl) ?_
    refine rl_gcall callable_17 rfl rfl rfl rfl rfl rfl rfl rfl (awake7_any _) (fun e63 w64 hp65 => ?_)
    obtain ⟨rfl, hOi⟩ := hp65
    refine ⟨_, rfl, ?_⟩
    have hO66 := hO62.join hOi
    refine rl_v rfl rfl rfl (ov_pick_t rfl rfl rfl) <| rl_v rfl rfl rfl (ov_assign rfl rfl) <| rl_nil <| run_ret Try.func12 (res1 Try.results12 rfl) ?_
    exact ⟨rfl, hO66.below⟩
end Go.Proofs.Ytbepolognfdkeaa
