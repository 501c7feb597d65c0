import Derived.Test.YtlldeifbfpmbaaaFjA
import Derived.Test.YtlldeifbfpmbaaaFcB
set_option maxRecDepth 100000
namespace Go.Proofs.Ytlldeifbfpmbaaa
open Go.RowKit Go.Proofs Go.MapKept
theorem ov_eqlB5 {P : Program} {N : Nat} {o : Oper} {F : Fr} {w : World} {T U : TypeId} {x y : Operand} {a b : Bool} (ho : o.op = .binOp .eql T x y U) (hT : P.underlying T = some .bool) (hx : Fr.ev F x = some (.bool a)) (hy : Fr.ev F y = some (.bool b)) : OpV P N o F w (.bool (decide (a = b))) := by
 intro r hr
 unfold execOp
 have h1 := run_equal_bool (P := P) w T a b hT
 have e : (a == b) = decide (a = b) := by cases a <;> cases b <;> rfl
 simp only [ho, hr.ev hx, hr.ev hy, Sem.run_bind, eqGuard]
 simp [binOp, h1, Result.andThen, e]
noncomputable def mgE (f : Fair) (an bn : Nat) (a b : Int → Int) : Int :=
 open Classical in
 if an ≠ f.n ∨ bn ≠ f.n then 7 else if ¬ (f.Stab a ∧ f.Stab b) then 4 else 0
theorem likes_lik {f : Fair} (hV : Valid5 f f.m) {a b : Int → Int} (ha : f.Poss a) (hb : f.Poss b) {g : Int} (g0 : 0 ≤ g) (g1 : g < f.n) : (if b g < 0 then (f.m : Int) else f.rg g (b g)) < (if a g < 0 then (f.m : Int) else f.rg g (a g)) ↔ f.lik g (b g) (a g) := by
 have h1 := ha.at_ g g0 g1
 have h2 := hb.at_ g g0 g1
 have h3 : f.gl g ≤ f.m := pigeon (fun k k0 k1 => hV.ok.gr g k g0 g1 k0 k1) (hV.ok.gd g g0 g1)
 unfold Fair.lik
 by_cases c : b g < 0
 ·rw [if_pos c]
  by_cases d : a g < 0
  ·rw [if_pos d]; omega
  ·rw [if_neg d]
   rcases h1 with e | e
   ·omega
   ·have := e.2.1; omega
 ·rw [if_neg c]
  have hk : f.rg g (b g) < f.gl g := by rcases h2 with e | e; omega; exact e.2.1
  by_cases d : a g < 0
  ·rw [if_pos d]; omega
  ·rw [if_neg d]; omega
theorem likOk {f : Fair} {a : Int → Int} (ha : f.Poss a) {g : Int} (g0 : 0 ≤ g) (g1 : g < f.n) : a g < 0 ∨ f.rg g (a g) < f.gl g := by
 rcases ha.at_ g g0 g1 with e | e
 ·exact .inl (by omega)
 ·exact .inr e.2.1
section
variable (ga ba qa aa xa : Option Addr) (gc bc qc an ac xn xc : Nat) (f : Fair) (a b : Int → Int) (w : World) (hV : Valid5 f f.m) (hF : FAg w.heap.size w ga ba qa f f.m) (han : an ≤ 1000000) (hxn : xn ≤ 1000000) (ha : IAt w.heap.size w aa an (fun i => iv (a i))) (hb : IAt w.heap.size w xa xn (fun i => iv (b i)))
include hV hF han hxn ha hb
set_option maxHeartbeats 4000000 in
theorem merged5_any (bt : Bool) :
  Calls Try.prog 53 #[.agg #[.slice ga f.n gc, .slice ba f.m bc, .slice qa f.m qc], .slice aa an ac, .slice xa xn xc, .bool bt] w fun e w' => ∃ va vn vc c je, je = mgE f an xn a b ∧ e = .returned (.tuple #[.slice va vn vc, iv je]) ∧ (je = 0 → vn = f.n ∧ IRow (.slice va vn vc) 3 f.n (fun g => iv (if bt then f.join a b g else f.meet a b g)) c) ∧ (je ≠ 0 → vn = 0) ∧ Own w.heap.size w w' [c] := by
 have hlg := hV.lg
 have hn := hV.sm.n
 obtain ⟨lb, lo, hla, hlrow⟩ := ha.open
 obtain ⟨qb, qo, hqa, hqrow⟩ := hb.open
 refine calls_of_run (F := [(0, _), (1, _), (2, _), (3, _)]) Try.func53 rfl Try.ntmps53 rfl rfl ?_
 have hO0 := Own.init w
 refine run_seq <| run_region <| rl_ow rfl (ow_box _ rfl rfl rfl rfl rfl hO0) ?_
 rintro _ w1 ⟨b1, rfl, hO2, hs3⟩
 refine rl_v rfl rfl rfl (ov_assign rfl rfl) <| rl_v rfl rfl rfl (ov_assign rfl rfl) <| rl_nil <| run_seq <| run_seq <| run_region <| rl_v rfl rfl rfl (ov_loadW rfl Try.underlying30 rfl (by kernel_rfl) rfl hO2 0 rfl) ?_
 refine rl_call callable_47 rfl rfl rfl rfl rfl rfl (check5_any ga ba qa gc bc qc f.m f _ hlg.n hlg.m hlg.q hlg.gl hlg.bl (hO2.fag hF)) (fun e4 w5 hp6 => ?_)
 obtain ⟨rfl, hbl⟩ := hp6
 refine ⟨_, rfl, ?_⟩
 have hO7 := hO2.past hbl
 have h0 := chkF_0.2 hV
 refine rl_v rfl rfl rfl (ov_assign rfl rfl) <| rl_nil <| run_seq <| run_region <| rl_v rfl rfl rfl (ov_move rfl rfl) <| rl_v rfl rfl rfl (ov_neq rfl rfl rfl) <| rl_nil ?_
 first | refine run_cond_dec rfl (fun h1 => ?_) (fun h1 => ?_) | refine run_cond rfl (fun h1 => ?_) (fun h1 => ?_)
 ·exfalso; exact h1 h0
 ·refine run_skip <| run_seq <| run_seq <| run_region_join 32 (.bool (decide (an ≠ f.n ∨ xn ≠ f.n))) [1, 2, 3, 4] (fun hk8 => ?_) ?_
  ·refine rl_v rfl rfl rfl (ov_move rfl rfl) <| rl_v rfl rfl rfl (ov_len rfl Try.underlying23 rfl) <| rl_v rfl rfl rfl (ov_fieldS rfl Try.underlying30 rfl (fo := 0) rfl (by kernel_rfl) rfl) ?_
   refine rl_v rfl rfl rfl (ov_load rfl Try.underlying22 rfl rfl (by exact hO7.cellL 0 rfl (off := 0) rfl)) ?_
   refine rl_v rfl rfl rfl (ov_len rfl Try.underlying22 rfl) <| rl_v rfl rfl rfl (ov_neq rfl rfl rfl) <| rl_v rfl rfl rfl (ov_move rfl rfl) ?_
   first | refine rl_split_dec 25 rfl (fun hg9 => ?_) (fun hg9 => ?_) | refine rl_split 25 rfl (fun hg9 => ?_) (fun hg9 => ?_)
   ·refine rl_gskip rfl rfl rfl rfl rfl rfl <| rl_gskip rfl rfl rfl rfl rfl rfl <| rl_gskip rfl rfl rfl rfl rfl rfl <| rl_gskip rfl rfl rfl rfl rfl rfl <| rl_gskip rfl rfl rfl rfl rfl rfl <| rl_gskip rfl rfl rfl rfl rfl rfl <| rl_v rfl rfl rfl (ov_pick_t rfl rfl rfl) ?_
    refine rl_nil (hk8 _ (jbt rfl (by omega)) (And.intro rfl (And.intro rfl (And.intro rfl (And.intro rfl trivial)))))
   ·refine rl_gv rfl rfl rfl rfl rfl (ov_move rfl rfl) <| rl_gv rfl rfl rfl rfl rfl (ov_len rfl Try.underlying23 rfl) <| rl_gv rfl rfl rfl rfl rfl (ov_fieldS rfl Try.underlying30 rfl (fo := 0) rfl (by kernel_rfl) rfl) ?_
    refine rl_gv rfl rfl rfl rfl rfl (ov_load rfl Try.underlying22 rfl rfl (by exact hO7.cellL 0 rfl (off := 0) rfl)) ?_
    refine rl_gv rfl rfl rfl rfl rfl (ov_len rfl Try.underlying22 rfl) <| rl_gv rfl rfl rfl rfl rfl (ov_neq rfl rfl rfl) <| rl_v rfl rfl rfl (ov_pick_f rfl rfl rfl) ?_
    refine rl_nil (hk8 _ (jbd rfl (by omega)) (And.intro rfl (And.intro rfl (And.intro rfl (And.intro rfl trivial)))))
  ·show Run _ _ _ _ [(32, _), (1, _), (2, _), (3, _), (4, _)] _ _
   first | refine run_cond_dec rfl (fun h2 => ?_) (fun h2 => ?_) | refine run_cond rfl (fun h2 => ?_) (fun h2 => ?_)
   ·have e7 : mgE f an xn a b = 7 := if_pos h2
    refine run_seq <| run_region <| rl_v rfl rfl rfl (ov_assign rfl rfl) <| rl_v rfl rfl rfl (ov_assign rfl rfl) <| rl_nil <| run_ret Try.func53 (res2 Try.results53 rfl rfl) ?_
    exact ⟨none, 0, 0, none, 7, e7.symm, rfl, (fun h => absurd h (by decide)), fun _ => rfl, hO7.none_.nil_cons⟩
   ·obtain rfl : an = f.n := Classical.byContradiction fun h => h2 (.inl h)
    obtain rfl : xn = f.n := Classical.byContradiction fun h => h2 (.inr h)
    refine run_skip <| run_seq <| run_region <| rl_v rfl rfl rfl (ov_loadW rfl Try.underlying30 rfl (by kernel_rfl) rfl hO7 0 rfl) ?_
    refine rl_call callable_48 rfl rfl rfl rfl rfl rfl (newTables_any ga ba qa gc bc qc f _ hV.sm ((hO7.fag hF).fat rfl)) (fun e10 w11 hp12 => ?_)
    obtain ⟨tb, H1, rfl, hO1, hP⟩ := hp12
    refine ⟨_, rfl, ?_⟩
    have hO13 := hO7.join hO1
    have hOn := hO13.none_
    refine rl_v rfl rfl rfl (ov_assign rfl rfl) <| rl_nil <| run_seq <| run_seq <| run_region <| rl_v rfl rfl rfl (ov_move rfl rfl) <| rl_v rfl rfl rfl (ov_move rfl rfl) ?_
    refine rl_call callable_64 rfl rfl rfl rfl rfl rfl (stable5_any tb aa f.n ac f a _ hV hP hlg.n (hOn.iatF ha)) (fun e14 w15 hp16 => ?_)
    obtain ⟨⟨r1, rfl, hr1⟩, hb1⟩ := hp16
    refine ⟨_, rfl, ?_⟩
    have hO17 := hOn.past hb1
    have hP2 := (hP.below hb1).mono hb1.size
    refine rl_v rfl rfl rfl (ov_not rfl rfl) <| rl_v rfl rfl rfl (ov_move rfl rfl) ?_
    first | refine rl_split_dec 39 rfl (fun q1 => ?_) (fun q1 => ?_) | refine rl_split 39 rfl (fun q1 => ?_) (fun q1 => ?_)
    ·refine rl_gskip rfl rfl rfl rfl rfl rfl <| rl_gskip rfl rfl rfl rfl rfl rfl <| rl_gskip rfl rfl rfl rfl rfl rfl <| rl_gskip rfl rfl rfl rfl rfl rfl <| rl_v rfl rfl rfl (ov_pick_t rfl rfl rfl) <| rl_nil <| run_cond_t rfl ?_
     have e4 : mgE f f.n f.n a b = 4 := by
      unfold mgE
      rw [if_neg (fun h => h.elim (fun h => h rfl) fun h => h rfl), if_pos (fun hs => by rw [hr1.2 ⟨rfl, hs.1⟩] at q1; exact Bool.noConfusion q1)]
     refine run_seq <| run_region <| rl_v rfl rfl rfl (ov_assign rfl rfl) <| rl_v rfl rfl rfl (ov_assign rfl rfl) <| rl_nil <| run_ret Try.func53 (res2 Try.results53 rfl rfl) ?_
     exact ⟨none, 0, 0, none, 4, e4.symm, rfl, (fun h => absurd h (by decide)), fun _ => rfl, hO17.nil_cons⟩
    ·have hr1t : r1 = true := by cases r1; exact Bool.noConfusion q1; rfl
     have hsa := (hr1.1 hr1t).2
     refine rl_gv rfl rfl rfl rfl rfl (ov_move rfl rfl) <| rl_gv rfl rfl rfl rfl rfl (ov_move rfl rfl) ?_
     refine rl_gcall callable_64 rfl rfl rfl rfl rfl rfl rfl rfl (stable5_any tb xa f.n xc f b _ hV hP2 hlg.n (hO17.iatF hb)) (fun e19 w20 hp21 => ?_)
     obtain ⟨⟨r2, rfl, hr2⟩, hb2⟩ := hp21
     refine ⟨_, rfl, ?_⟩
     have hO22 := hO17.past hb2
     have hP3 := (hP2.below hb2).mono hb2.size
     refine rl_gv rfl rfl rfl rfl rfl (ov_not rfl rfl) <| rl_v rfl rfl rfl (ov_pick_f rfl rfl rfl) <| rl_nil ?_
     first | refine run_cond_dec rfl (fun q2 => ?_) (fun q2 => ?_) | refine run_cond rfl (fun q2 => ?_) (fun q2 => ?_)
     ·have e4 : mgE f f.n f.n a b = 4 := by
       unfold mgE
       rw [if_neg (fun h => h.elim (fun h => h rfl) fun h => h rfl), if_pos (fun hs => by rw [hr2.2 ⟨rfl, hs.2⟩] at q2; exact Bool.noConfusion q2)]
      refine run_seq <| run_region <| rl_v rfl rfl rfl (ov_assign rfl rfl) <| rl_v rfl rfl rfl (ov_assign rfl rfl) <| rl_nil <| run_ret Try.func53 (res2 Try.results53 rfl rfl) ?_
      exact ⟨none, 0, 0, none, 4, e4.symm, rfl, (fun h => absurd h (by decide)), fun _ => rfl, hO22.nil_cons⟩
     ·have hr2t : r2 = true := by cases r2; exact Bool.noConfusion q2; rfl
      have hsb := (hr2.1 hr2t).2
      have e0 : mgE f f.n f.n a b = 0 := by
       unfold mgE
       rw [if_neg (fun h => h.elim (fun h => h rfl) fun h => h rfl), if_neg (fun h => h ⟨hsa, hsb⟩)]
      have ha2 := hO22.iatF ha
      have hb2' := hO22.iatF hb
      have hOS := hO22
      obtain ⟨lb2, lo2, hla2, hlrow2⟩ := ha2.open
      obtain ⟨qb2, qo2, hqa2, hqrow2⟩ := hb2'.open
      refine run_skip <| run_seq <| run_region <| rl_v rfl rfl rfl (ov_move rfl rfl) ?_
      refine rl_call callable_77 rfl rfl rfl rfl rfl rfl (clone5_any aa f.n ac a _ hlg.n ha2) (fun e23 w24 hp25 => ?_)
      obtain ⟨v, c, rfl, hrv, hOc⟩ := hp25
      refine ⟨_, rfl, ?_⟩
      have hO26 := (Own.init w20).join hOc
      obtain ⟨va, vc, rfl⟩ := Row.val hrv
      obtain ⟨gb, hgb⟩ := hrv.addr
      refine rl_v rfl rfl rfl (ov_assign rfl rfl) <| rl_nil <| run_seq <| run_seq <| run_region <| rl_v rfl rfl rfl (ov_move rfl rfl) <| rl_v rfl rfl rfl (ov_len rfl Try.underlying23 rfl) <| rl_v rfl rfl rfl (ov_move rfl rfl) <| rl_nil <| run_block <| Run.keep [1, 2, 3, 11, 12, 48, 49] (F' := [(1, _), (2, _), (3, _), (11, _), (12, _), (48, _), (49, _)]) rfl <| run_loop2 (fun (k : Int) (M : Int → Int) => [(49, .int .i64 k)]) [1, 2, 3, 11, 12, 48] (fun (k : Int) (M : Int → Int) (w27 : World) => 0 ≤ k ∧ k ≤ f.n ∧ (∀ g : Int, 0 ≤ g → g < k → M g = if bt then f.join a b g else f.meet a b g) ∧ (∀ g : Int, k ≤ g → g < f.n → M g = a g) ∧ ∃ c : Option Blk, IRow (.slice va f.n vc) 3 f.n (fun g => iv (M g)) c ∧ Own w20.heap.size w20 w27 [c]) (fun (k : Int) (M : Int → Int) => ((f.n : Int) - k).toNat) (0) (a) ?_ (And.intro (by exact slot_int rfl (by first | omega)) (And.intro rfl (And.intro rfl (And.intro rfl (And.intro rfl (And.intro rfl (And.intro rfl trivial))))))) ?_
      ·exact ⟨by omega, by omega, fun g g0 g1 => by omega, fun g _ _ => rfl, c, hrv, hO26⟩
      intro k M w27 hIw27 ih28
      obtain ⟨hk0, hk1, hM, hMr, c, hr, hO⟩ := hIw27
      show Run _ _ _ _ [(49, _), (1, _), (2, _), (3, _), (11, _), (12, _), (48, _)] _ _
      refine run_seq <| run_region <| rl_v rfl rfl rfl (ov_lss rfl rfl rfl) <| rl_nil <| run_seq ?_
      first | refine run_cond_dec rfl (fun h5 => ?_) (fun h5 => ?_) | refine run_cond rfl (fun h5 => ?_) (fun h5 => ?_)
      ·have hgb' := hgb (by omega)
       refine run_skip <| run_seq <| run_block <| run_seq <| run_region <| rl_v rfl rfl rfl (ov_move rfl rfl) <| rl_v rfl rfl rfl (ov_assign rfl rfl) <| rl_nil <| run_seq <| run_class (Cl5 w20.heap.size w20 [c]) (⟨hO.drew⟩) mixed (by kernel_rfl) ?_
       refine rk_v rfl rfl rfl (fun wq hQ => ov_move rfl rfl) ?_
       refine rk_v rfl rfl rfl (fun wq hQ => ov_move rfl rfl) ?_
       refine rk_v rfl rfl rfl (fun wq hQ => ov_move rfl rfl) ?_
       refine rk_v rfl rfl rfl (fun wq hQ => ov_move rfl rfl) ?_
       refine rk_v rfl rfl rfl (fun wq hQ => ov_index1 rfl Try.underlying23 (by kernel_rfl) rfl rfl ⟨by omega, by omega⟩ (by exact hqa2 (by omega))) ?_
       refine rk_v rfl rfl rfl (fun wq hQ => ov_load rfl Try.underlying3 rfl rfl (by exact hqrow2 _ (hQ.own).below _ (by omega) (by omega))) ?_
       refine rk_call callable_76 rfl rfl rfl rfl rfl rfl (fun wq hQ => (likes_any tb f _ k (b k) hV.ok ((hQ.own).pt hP3) hk0 h5 (likOk hsb.poss hk0 h5)).mono fun _ _ h => ⟨h.1, ⟨(hQ.own).past h.2⟩⟩) ?_
       refine rk_v rfl rfl rfl (fun wq hQ => ov_move rfl rfl) ?_
       refine rk_v rfl rfl rfl (fun wq hQ => ov_move rfl rfl) ?_
       refine rk_v rfl rfl rfl (fun wq hQ => ov_move rfl rfl) ?_
       refine rk_v rfl rfl rfl (fun wq hQ => ov_move rfl rfl) ?_
       refine rk_v rfl rfl rfl (fun wq hQ => ov_index1 rfl Try.underlying23 (by kernel_rfl) rfl rfl ⟨by omega, by omega⟩ (by exact hla2 (by omega))) ?_
       refine rk_v rfl rfl rfl (fun wq hQ => ov_load rfl Try.underlying3 rfl rfl (by exact hlrow2 _ (hQ.own).below _ (by omega) (by omega))) ?_
       refine rk_call callable_76 rfl rfl rfl rfl rfl rfl (fun wq hQ => (likes_any tb f _ k (a k) hV.ok ((hQ.own).pt hP3) hk0 h5 (likOk hsa.poss hk0 h5)).mono fun _ _ h => ⟨h.1, ⟨(hQ.own).past h.2⟩⟩) ?_
       have hlk := likes_lik (a := a) (b := b) hV hsa.poss hsb.poss hk0 h5
       have hval : ∀ {y : Bool}, decide ((if b k < 0 then (f.m : Int) else f.rg k (b k)) < (if a k < 0 then (f.m : Int) else f.rg k (a k))) = y → (if bt then f.join a b k else f.meet a b k) = if y = bt then b k else a k := fun {y} hy => by
        unfold Fair.join Fair.meet
        cases y
        ·have hn : ¬ f.lik k (b k) (a k) := fun h => (of_decide_eq_false hy) (hlk.2 h)
         rw [if_neg hn, if_neg hn]
         cases bt <;> rfl
        ·have hn : f.lik k (b k) (a k) := hlk.1 (of_decide_eq_true hy)
         rw [if_pos hn, if_pos hn]
         cases bt <;> rfl
       have hval2 := hval rfl
       refine rk_v rfl rfl rfl (fun wq hQ => ov_lss rfl rfl rfl) ?_
       refine rk_v rfl rfl rfl (fun wq hQ => ov_move rfl rfl) ?_
       refine rk_v rfl rfl rfl (fun wq hQ => ov_eqlB5 rfl Try.underlying4 rfl rfl) ?_
       refine rk_nil (fun w35 hQ => ?_)
       first | refine run_cond_dec rfl (fun h6 => ?_) (fun h6 => ?_) | refine run_cond rfl (fun h6 => ?_) (fun h6 => ?_)
       ·rw [if_pos h6] at hval2
        refine run_region <| rl_v rfl rfl rfl (ov_move rfl rfl) <| rl_v rfl rfl rfl (ov_move rfl rfl) <| rl_v rfl rfl rfl (ov_move rfl rfl) <| rl_v rfl rfl rfl (ov_move rfl rfl) <| rl_v rfl rfl rfl (ov_index1 rfl Try.underlying23 (by kernel_rfl) rfl rfl ⟨by omega, by omega⟩ (by exact hqa2 (by omega))) ?_
        refine rl_v rfl rfl rfl (ov_load rfl Try.underlying3 rfl rfl (by exact hqrow2 _ (hQ.own).below _ (by omega) (by omega))) ?_
        refine rl_v rfl rfl rfl (ov_index1 rfl Try.underlying23 (by kernel_rfl) rfl rfl ⟨by omega, by omega⟩ (by exact (id hgb'))) ?_
        refine rl_ow rfl (ow_storeI1 rfl rfl (by kernel_rfl) (hQ.own) 0 hr rfl hgb rfl ⟨by omega, by omega⟩ rfl rfl) ?_
        rintro _ w36 ⟨c9, rfl, hO37, hv9, hs38⟩
        refine rl_nil <| run_inBlock <| run_region <| rl_v rfl rfl rfl (ov_add rfl rfl rfl (by omega)) ?_
        refine rl_v rfl rfl rfl (ov_move rfl rfl) <| rl_nil ?_
        refine Run.use (ih28 (k + 1) (upd M k (b k)) _ ?_ ?_) (And.intro (by exact slot_int rfl (by first | omega)) (And.intro rfl (And.intro rfl (And.intro rfl (And.intro rfl (And.intro rfl (And.intro rfl trivial)))))))
        ·first | omega | (dsimp only; omega)
        ·exact ⟨by omega, by omega, fun g g0 g1 => by by_cases e : g = k; (rw [e, upd_same]; exact hval2.symm); (rw [upd_ne _ _ e]; exact hM g g0 (by omega)), fun g g0 g1 => by rw [upd_ne _ _ (by omega)]; exact hMr g (by omega) g1, c9, hv9.congr (fun j _ _ => by unfold upd; split <;> rfl), hO37⟩
       ·rw [if_neg h6] at hval2
        refine run_skip <| run_inBlock <| run_region <| rl_v rfl rfl rfl (ov_add rfl rfl rfl (by omega)) ?_
        refine rl_v rfl rfl rfl (ov_move rfl rfl) <| rl_nil ?_
        refine Run.use (ih28 (k + 1) (M) _ ?_ ?_) (And.intro (by exact slot_int rfl (by first | omega)) (And.intro rfl (And.intro rfl (And.intro rfl (And.intro rfl (And.intro rfl (And.intro rfl trivial)))))))
        ·first | omega | (dsimp only; omega)
        ·exact ⟨by omega, by omega, fun g g0 g1 => by by_cases e : g = k; (rw [e]; exact (hMr k (Int.le_refl _) h5).trans hval2.symm); (exact hM g g0 (by omega)), fun g g0 g1 => hMr g (by omega) g1, c, hr, (hQ.own)⟩
      ·obtain rfl : k = f.n := by omega
       have hOf := (hOS.join hO).sub (List.sublist_append_left [c] _)
       refine run_exit rfl <| run_seq <| run_region <| rl_v rfl rfl rfl (ov_move rfl rfl) <| rl_v rfl rfl rfl (ov_assign rfl rfl) <| rl_v rfl rfl rfl (ov_assign rfl rfl) <| rl_nil <| run_ret Try.func53 (res2 Try.results53 rfl rfl) ?_
       exact ⟨va, f.n, vc, c, 0, e0.symm, rfl, fun _ => ⟨rfl, hr.congr fun g g0 g1 => congrArg iv (hM g g0 g1)⟩, fun h => absurd rfl h, hOf⟩
theorem join5_any :
  Calls Try.prog 21 #[.agg #[.slice ga f.n gc, .slice ba f.m bc, .slice qa f.m qc], .slice aa an ac, .slice xa xn xc] w fun e w' => ∃ va vn vc c je, je = mgE f an xn a b ∧ e = .returned (.tuple #[.slice va vn vc, iv je]) ∧ (je = 0 → vn = f.n ∧ IRow (.slice va vn vc) 3 f.n (fun g => iv (f.join a b g)) c) ∧ (je ≠ 0 → vn = 0) ∧ Own w.heap.size w w' [c] := by
 refine calls_of_run (F := [(0, _), (1, _), (2, _)]) Try.func21 rfl Try.ntmps21 rfl rfl ?_
 have hO0 := Own.init w
 refine run_seq <| run_region <| rl_ow rfl (ow_box _ rfl rfl rfl rfl rfl hO0) ?_
 rintro _ w1 ⟨b1, rfl, hO2, hs3⟩
 refine rl_v rfl rfl rfl (ov_assign rfl rfl) <| rl_v rfl rfl rfl (ov_assign rfl rfl) <| rl_nil <| run_seq <| run_region <| rl_v rfl rfl rfl (ov_loadW rfl Try.underlying30 rfl (by kernel_rfl) rfl hO2 0 rfl) ?_
 refine rl_v rfl rfl rfl (ov_move rfl rfl) <| rl_v rfl rfl rfl (ov_move rfl rfl) ?_
 refine rl_call callable_53 rfl rfl rfl rfl rfl rfl (merged5_any ga ba qa aa xa gc bc qc an ac xn xc f a b _ hV (hO2.fag hF) han hxn (hO2.iatF ha) (hO2.iatF hb) true) (fun e4 w5 hp6 => ?_)
 obtain ⟨va, vn, vc, c, je, hje, rfl, h1, h2, hO1⟩ := hp6
 refine ⟨_, rfl, ?_⟩
 have hO7 := hO2.join hO1
 refine rl_v rfl rfl rfl (ov_extract rfl rfl (by rfl)) ?_
 refine rl_v rfl rfl rfl (ov_extract rfl rfl (by rfl)) ?_
 refine rl_v rfl rfl rfl (ov_assign rfl rfl) <| rl_v rfl rfl rfl (ov_assign rfl rfl) <| rl_nil <| run_ret Try.func21 (res2 Try.results21 rfl rfl) ?_
 exact ⟨va, vn, vc, c, je, hje, rfl, h1, h2, hO7.sub (.cons_cons _ (List.nil_sublist _))⟩
theorem meet5_any :
  Calls Try.prog 22 #[.agg #[.slice ga f.n gc, .slice ba f.m bc, .slice qa f.m qc], .slice aa an ac, .slice xa xn xc] w fun e w' => ∃ va vn vc c je, je = mgE f an xn a b ∧ e = .returned (.tuple #[.slice va vn vc, iv je]) ∧ (je = 0 → vn = f.n ∧ IRow (.slice va vn vc) 3 f.n (fun g => iv (f.meet a b g)) c) ∧ (je ≠ 0 → vn = 0) ∧ Own w.heap.size w w' [c] := by
 refine calls_of_run (F := [(0, _), (1, _), (2, _)]) Try.func22 rfl Try.ntmps22 rfl rfl ?_
 have hO0 := Own.init w
 refine run_seq <| run_region <| rl_ow rfl (ow_box _ rfl rfl rfl rfl rfl hO0) ?_
 rintro _ w1 ⟨b1, rfl, hO2, hs3⟩
 refine rl_v rfl rfl rfl (ov_assign rfl rfl) <| rl_v rfl rfl rfl (ov_assign rfl rfl) <| rl_nil <| run_seq <| run_region <| rl_v rfl rfl rfl (ov_loadW rfl Try.underlying30 rfl (by kernel_rfl) rfl hO2 0 rfl) ?_
 refine rl_v rfl rfl rfl (ov_move rfl rfl) <| rl_v rfl rfl rfl (ov_move rfl rfl) ?_
 refine rl_call callable_53 rfl rfl rfl rfl rfl rfl (merged5_any ga ba qa aa xa gc bc qc an ac xn xc f a b _ hV (hO2.fag hF) han hxn (hO2.iatF ha) (hO2.iatF hb) false) (fun e4 w5 hp6 => ?_)
 obtain ⟨va, vn, vc, c, je, hje, rfl, h1, h2, hO1⟩ := hp6
 refine ⟨_, rfl, ?_⟩
 have hO7 := hO2.join hO1
 refine rl_v rfl rfl rfl (ov_extract rfl rfl (by rfl)) ?_
 refine rl_v rfl rfl rfl (ov_extract rfl rfl (by rfl)) ?_
 refine rl_v rfl rfl rfl (ov_assign rfl rfl) <| rl_v rfl rfl rfl (ov_assign rfl rfl) <| rl_nil <| run_ret Try.func22 (res2 Try.results22 rfl rfl) ?_
 exact ⟨va, vn, vc, c, je, hje, rfl, h1, h2, hO7.sub (.cons_cons _ (List.nil_sublist _))⟩
end
end Go.Proofs.Ytlldeifbfpmbaaa
