import Derived.Test.YtlldeifbfpmbaaaFnK
set_option maxRecDepth 100000
namespace Go.Proofs.Ytlldeifbfpmbaaa
open Go.RowKit Go.Proofs Go.MapKept
theorem Coal.other {lk : Int → Int → Int} {l l' : Int → Int} {I : Int → Prop} (h : Coal lk l I) (e : ∀ x : Int, I x → l x = l' x) : Coal lk l' I := by
 obtain ⟨w, hw, σ, h1, h2⟩ := h
 refine ⟨w, hw, σ, fun x hx => ?_, h2⟩
 have := h1 x hx
 unfold op5 at this ⊢
 rw [← e x hx]
 exact this
theorem p4x {α : Type} {x a b c : α} {R : List α} : (x :: a :: b :: c :: R).Perm (a :: b :: c :: x :: R) := (List.perm_middle (l₁ := [a, b, c])).symm
set_option maxHeartbeats 1600000 in
theorem better5Law_any (ga la : Option Addr) (n gc ln lc : Nat) (GL : Int → Nat) (GE : Int → Int → Int) (l : Int → Int) (w : World) (hG : RTab w.heap.size w ga n GL GE) (hlc : ln ≤ lc) (hl : IAt w.heap.size w la ln (fun i => iv (l i))) :
  Calls Try.prog 6 #[.agg #[.slice ga n gc], .slice la ln lc] w fun e w' => e = .returned (.bool true) ∧ Below w.heap.size w w' := by
 refine calls_of_run (F := [(0, _), (1, _)]) Try.func6 rfl Try.ntmps6 rfl rfl ?_
 have hO0 := Own.init w
 refine run_seq <| run_region <| rl_ow rfl (ow_box _ rfl rfl rfl rfl rfl hO0) ?_
 rintro _ w1 ⟨b1, rfl, hO2, hs3⟩
 refine rl_v rfl rfl rfl (ov_assign rfl rfl) <| rl_nil <| run_seq <| run_region <| rl_v rfl rfl rfl (ov_loadW rfl Try.underlying47 rfl (by kernel_rfl) rfl hO2 0 rfl) ?_
 refine rl_call callable_24 rfl rfl rfl rfl rfl rfl (tidySwap_any ga n gc 5 GL GE _ (by decide) (hO2.rtab hG)) (fun e4 w5 hp6 => ?_)
 obtain ⟨n1, L1, E1, ga1, gc1, H1, rfl, hn1, hS1, hO1⟩ := hp6
 refine ⟨_, rfl, ?_⟩
 have hO7 := hO2.join hO1
 have hOa := hO7.perm List.perm_append_comm
 have hR1 := hS1.g.rown
 have hL9 : ∀ r : Int, 0 ≤ r → r < n1 → L1 r ≤ 1000000 := fun r r0 r1 => by have := hS1.len r r0 r1; omega
 refine rl_ow rfl (ow_alloc _ rfl rfl rfl zero_47 rfl hOa) ?_
 rintro _ w8 ⟨b5, rfl, hO9, hs10⟩
 refine rl_ow rfl (ow_storeW rfl rfl (by kernel_rfl) hO9 0 rfl rfl (by rfl) rfl (by rfl)) ?_
 rintro _ w11 ⟨rfl, hO12, hs13⟩
 refine rl_nil <| run_seq <| run_region <| rl_v rfl rfl rfl (ov_loadW rfl Try.underlying47 rfl (by kernel_rfl) rfl hO12 0 rfl) ?_
 refine rl_call callable_25 rfl rfl rfl rfl rfl rfl (swap5_any ga1 n1 gc1 _) (fun e14 w15 hp16 => ?_)
 obtain ⟨rfl, hb2⟩ := hp16
 refine ⟨_, rfl, ?_⟩
 have hO17 := hO12.past hb2
 refine rl_ow rfl (ow_alloc _ rfl rfl rfl zero_49 rfl hO17) ?_
 rintro _ w18 ⟨b6, rfl, hO19, hs20⟩
 refine rl_ow rfl (ow_storeW rfl rfl (by kernel_rfl) hO19 0 rfl rfl (by rfl) rfl (by rfl)) ?_
 rintro _ w21 ⟨rfl, hO22, hs23⟩
 have hOn := hO22.nil_cons
 refine rl_nil <| run_seq <| run_region <| rl_v rfl rfl rfl (ov_assign rfl rfl) <| rl_nil <| run_seq <| run_region <| rl_v rfl rfl rfl (ov_move rfl rfl) <| rl_v rfl rfl rfl (ov_move rfl rfl) <| rl_v rfl rfl rfl (ov_move rfl rfl) <| rl_v rfl rfl rfl (ov_len rfl Try.underlying23 rfl) <| rl_v rfl rfl rfl (ov_min rfl rfl rfl) <| rl_v rfl rfl rfl (ov_sliceH (min ln 7) (s := 1) rfl Try.underlying23 (by kernel_rfl) rfl rfl (by omega) (by omega)) ?_
 refine rl_ow rfl (ow_appS rfl rfl rfl Try.underlying23 info_3 rfl hOn 0 (IRow.nil 3 (fun _ => iv 0)) rfl rfl rfl (((hOn.iatF hl).take (by omega))) (fun _ => rfl) ⟨by omega, by omega⟩) ?_
 rintro _ w24 ⟨v23, c23, rfl, hO25, hr23, hs26⟩
 obtain ⟨a23, cp23, rfl⟩ := Row.val hr23
 have hr0 : IRow (.slice a23 (0 + min ln 7) cp23) 3 (0 + min ln 7) (fun i => iv (l i)) c23 := hr23.congr fun i i0 i1 => by unfold joinF; rw [if_neg (by omega)]; exact congrArg (fun j => iv (l j)) (by omega)
 refine rl_v rfl rfl rfl (ov_assign rfl rfl) <| rl_nil <| run_seq <| run_region <| rl_v rfl rfl rfl (ov_loadW rfl Try.underlying49 rfl (by kernel_rfl) rfl hO25 1 rfl) ?_
 refine rl_call callable_26 rfl rfl rfl rfl rfl rfl (core_any sortRows_all ga1 n1 gc1 L1 E1 _ (by omega) hS1.ok (hR1.at hO25.tail.tail.tail.tail)) (fun e27 w28 hp29 => ?_)
 obtain ⟨oc, o, t, rfl, hOc, hC⟩ := hp29
 refine ⟨_, rfl, ?_⟩
 have hO30 := hO25.join hOc
 refine rl_v rfl rfl rfl (ov_move rfl rfl) <| rl_v rfl rfl rfl (ov_extract rfl rfl (by rfl)) ?_
 refine rl_v rfl rfl rfl (ov_extract rfl rfl (by rfl)) ?_
 refine rl_v rfl rfl rfl (ov_assign rfl rfl) <| rl_v rfl rfl rfl (ov_assign rfl rfl) <| rl_nil <| run_seq <| run_seq <| run_region <| rl_v rfl rfl rfl (ov_move rfl rfl) <| rl_v rfl rfl rfl (ov_neq rfl rfl rfl) <| rl_nil ?_
 first | refine run_cond_dec rfl (fun bad => ?_) (fun bad => ?_) | refine run_cond rfl (fun bad => ?_) (fun bad => ?_)
 ·exfalso; exact bad rfl
 ·have hOi : Own w.heap.size w w28 (some (vch oc 3 n1 (fun i => iv (o i))) :: some (lch b6 49 [.slice ga1 n1 gc1]) :: some (lch b5 47 [.slice ga1 n1 gc1]) :: c23 :: some (lch b1 47 [.slice ga n gc]) :: H1) := hO30.perm (p231.cons _)
  refine run_skip <| run_seq <| run_seq <| run_region <| rl_v rfl rfl rfl (ov_assign rfl rfl) <| rl_nil <| run_block <| Run.keep [5, 6, 7, 8, 10] (F' := [(5, _), (6, _), (7, _), (8, _), (10, _)]) rfl <| run_loop4 (fun (k : Nat) (am : Option Addr) (lm : Nat) (cm : Nat) => [(10, .int .i64 (k : Int)), (7, .slice am lm cm)]) [5, 6, 8] (fun (k : Nat) (am : Option Addr) (lm : Nat) (cm : Nat) (w31 : World) => k ≤ 3 ∧ lm ≤ 100 ∧ ∃ (M : Int → Int) (R : List (Option Blk)), (∀ ww : World, Own w.heap.size w ww (some (vch oc 3 n1 (fun i => iv (o i))) :: R) → IAt ww.heap.size ww am lm (fun i => iv (M i))) ∧ H1.Sublist R ∧ Own w.heap.size w w31 (some (vch oc 3 n1 (fun i => iv (o i))) :: some (lch b6 49 [.slice ga1 n1 gc1]) :: some (lch b5 47 [.slice ga1 n1 gc1]) :: R)) (fun (k : Nat) (am : Option Addr) (lm : Nat) (cm : Nat) => 3 - k) (0) (a23) (0 + min ln 7) (cp23) ?_ (And.intro (by exact slot_int rfl (by first | omega)) (And.intro rfl (And.intro rfl (And.intro rfl (And.intro rfl trivial))))) ?_
  ·exact ⟨by omega, by omega, l, _, fun ww h => hr0.reads h 1 rfl, .cons _ (.cons _ (.refl _)), hOi⟩
  intro k am lm cm w31 hIw31 ih32
  obtain ⟨hk1, hlm, M, R, hrd, hsub, hO⟩ := hIw31
  show Run _ _ _ _ [(10, _), (7, _), (5, _), (6, _), (8, _)] _ _
  refine run_seq <| run_seq <| run_region <| rl_v rfl rfl rfl (ov_move rfl rfl) <| rl_v rfl rfl rfl (ov_lss rfl rfl rfl) <| rl_nil ?_
  first | refine run_cond_dec rfl (fun c1 => ?_) (fun c1 => ?_) | refine run_cond rfl (fun c1 => ?_) (fun c1 => ?_)
  ·have hT : ∀ ww : World, Own w.heap.size w ww (some (vch oc 3 n1 (fun i => iv (o i))) :: some (lch b6 49 [.slice ga1 n1 gc1]) :: some (lch b5 47 [.slice ga1 n1 gc1]) :: R) → RTab ww.heap.size ww ga1 n1 L1 E1 := fun ww h => hR1.at (h.tail.tail.tail.sub hsub)
   have hM : ∀ ww : World, Own w.heap.size w ww (some (vch oc 3 n1 (fun i => iv (o i))) :: some (lch b6 49 [.slice ga1 n1 gc1]) :: some (lch b5 47 [.slice ga1 n1 gc1]) :: R) → IAt ww.heap.size ww am lm (fun i => iv (M i)) := fun ww h => hrd ww (h.sub (.cons_cons _ (.cons _ (.cons _ (.refl _)))))
   refine run_skip <| run_seq <| run_block <| run_seq <| run_region <| rl_v rfl rfl rfl (ov_loadW rfl Try.underlying49 rfl (by kernel_rfl) rfl hO 1 rfl) ?_
   refine rl_v rfl rfl rfl (ov_move rfl rfl) ?_
   refine rl_call callable_27 rfl rfl rfl rfl rfl rfl (betterFull_any ga1 am n1 gc1 lm cm L1 E1 M _ (by omega) hS1.ok (hT _ hO) (by omega) (hM _ hO)) (fun e33 w34 hp35 => ?_)
   obtain ⟨ok, ma, mm, mc, X, c, rfl, hrX, hOx, hyes, hnot⟩ := hp35
   refine ⟨_, rfl, ?_⟩
   have hO36 := hO.join hOx
   refine rl_v rfl rfl rfl (ov_move rfl rfl) <| rl_v rfl rfl rfl (ov_extract rfl rfl (by rfl)) ?_
   refine rl_v rfl rfl rfl (ov_extract rfl rfl (by rfl)) ?_
   refine rl_v rfl rfl rfl (ov_assign rfl rfl) <| rl_v rfl rfl rfl (ov_assign rfl rfl) <| rl_nil <| run_seq <| Run.keep [5, 6, 7, 8, 10, 11, 12] (F' := [(5, _), (6, _), (7, _), (8, _), (10, _), (11, _), (12, _)]) rfl <| run_join1 (fun (z : Nat) => []) [5, 6, 7, 8, 10] (fun (z : Nat) (w37 : World) => Own w.heap.size w w37 (c :: some (vch oc 3 n1 (fun i => iv (o i))) :: some (lch b6 49 [.slice ga1 n1 gc1]) :: some (lch b5 47 [.slice ga1 n1 gc1]) :: R)) (fun hk38 => ?_) ?_
   ·refine run_block <| run_seq <| run_region <| rl_v rfl rfl rfl (ov_loadW rfl Try.underlying47 rfl (by kernel_rfl) rfl hO36 3 rfl) ?_
    refine rl_v rfl rfl rfl (ov_move rfl rfl) ?_
    refine rl_call callable_28 rfl rfl rfl rfl rfl rfl (refOutcome_any ga1 am n1 gc1 lm cm M _ (by omega) (hM _ hO36.tail)) (fun e39 w40 hp41 => ?_)
    obtain ⟨rfl, hb4⟩ := hp41
    refine ⟨_, rfl, ?_⟩
    have hO42 := hO36.past hb4
    refine rl_v rfl rfl rfl (ov_not rfl rfl) <| rl_v rfl rfl rfl (ov_assign rfl rfl) <| rl_nil ?_
    first | refine run_cond_dec rfl (fun c2 => ?_) (fun c2 => ?_) | refine run_cond rfl (fun c2 => ?_) (fun c2 => ?_)
    ·have hno : ¬ (lm = n1 ∧ IsL lm M n1) := fun h => by have := dB_iff.2 h; rw [this] at c2; exact Bool.noConfusion c2
     have hokf : ok = false := by cases ok; rfl; exact absurd (hyes rfl).1 hno
     obtain ⟨hmm, _⟩ := hnot hokf
     subst hokf
     subst hmm
     refine run_seq <| run_region <| rl_v rfl rfl rfl (ov_move rfl rfl) <| rl_v rfl rfl rfl (ov_move rfl rfl) ?_
     first | refine rl_noD 69 rfl (rfl) ?_ | refine rl_no 69 rfl (rfl) ?_
     refine rl_gv rfl rfl rfl rfl rfl (ov_move rfl rfl) <| rl_gv rfl rfl rfl rfl rfl (ov_len rfl Try.underlying23 rfl) <| rl_gv rfl rfl rfl rfl rfl (ov_neq rfl rfl rfl) <| rl_v rfl rfl rfl (ov_pick_f rfl rfl rfl) <| rl_nil ?_
     first | refine run_cond_dec rfl (fun bad => ?_) (fun bad => ?_) | refine run_cond rfl (fun bad => ?_) (fun bad => ?_)
     ·exfalso; exact bad rfl
     ·refine run_skip <| run_inBlock ?_
      refine Run.use (hk38 (0) _ ?_) (And.intro rfl (And.intro rfl (And.intro rfl (And.intro rfl (And.intro rfl trivial)))))
      exact hO42
    ·have hout : lm = n1 ∧ IsL lm M n1 := dB_iff.1 (by revert c2; cases dB (lm = n1 ∧ IsL lm M n1) <;> simp)
     obtain ⟨hle, hMl⟩ := hout
     obtain rfl : n1 = lm := hle.symm
     refine run_seq <| run_region <| rl_v rfl rfl rfl (ov_move rfl rfl) <| rl_v rfl rfl rfl (ov_assign rfl rfl) <| rl_nil ?_
     first | refine run_cond_dec rfl (fun c3 => ?_) (fun c3 => ?_) | refine run_cond rfl (fun c3 => ?_) (fun c3 => ?_)
     ·obtain ⟨_, hmb, hcoal⟩ := hyes c3
      refine run_seq <| run_region <| rl_v rfl rfl rfl (ov_loadW rfl Try.underlying47 rfl (by kernel_rfl) rfl hO42 3 rfl) ?_
      refine rl_v rfl rfl rfl (ov_move rfl rfl) <| rl_v rfl rfl rfl (ov_move rfl rfl) ?_
      refine rl_call callable_29 rfl rfl rfl rfl rfl rfl (refBetter_yes ga1 am ma n1 gc1 cm mm mc L1 E1 M X _ (by omega) hL9 (hT _ hO42.tail).tab (hM _ hO42.tail) (hrX.reads hO42 0 rfl) hmb hcoal) (fun e43 w44 hp45 => ?_)
      obtain ⟨rfl, hb5⟩ := hp45
      refine ⟨_, rfl, ?_⟩
      have hO46 := hO42.past hb5
      refine rl_v rfl rfl rfl (ov_not rfl rfl) <| rl_v rfl rfl rfl (ov_move rfl rfl) ?_
      first | refine rl_noD 81 rfl (rfl) ?_ | refine rl_no 81 rfl (rfl) ?_
      refine rl_gv rfl rfl rfl rfl rfl (ov_move rfl rfl) <| rl_gv rfl rfl rfl rfl rfl (ov_move rfl rfl) ?_
      refine rl_gcall callable_14 rfl rfl rfl rfl rfl rfl rfl rfl (ints5_any am (some ⟨oc, 0, none⟩) n1 cm n1 n1 M o _ (by omega) (hM _ hO46.tail) (hO46.readsI 1 rfl)) (fun e47 w48 hp49 => ?_)
      obtain ⟨⟨y, rfl, hy⟩, hb6⟩ := hp49
      refine ⟨_, rfl, ?_⟩
      have hO50 := hO46.past hb6
      have hyf : y = false := by
       cases e : y
       ·rfl
       ·have h1 := (hy.1 e).2
        exact absurd (hcoal.other fun x hx => h1 x (hmb.in_rng hx).1 (hmb.in_rng hx).2) (core_noCoal hC fun x hx => hmb.in_rng hx)
      subst hyf
      refine rl_v rfl rfl rfl (ov_pick_f rfl rfl rfl) <| rl_nil ?_
      first | refine run_cond_dec rfl (fun bad => ?_) (fun bad => ?_) | refine run_cond rfl (fun bad => ?_) (fun bad => ?_)
      ·exfalso; exact Bool.noConfusion bad
      ·refine run_skip <| run_inBlock ?_
       refine Run.use (hk38 (0) _ ?_) (And.intro rfl (And.intro rfl (And.intro rfl (And.intro rfl (And.intro rfl trivial)))))
       exact hO50
     ·have hokf : ok = false := by cases ok; rfl; exact Bool.noConfusion c3
      obtain ⟨hmm, hnc⟩ := hnot hokf
      have hnc := hnc ⟨rfl, hMl⟩
      subst hokf
      subst hmm
      have hsame : ∀ i : Int, 0 ≤ i → i < n1 → lik5 L1 E1 i (M i) = lik5 L1 E1 i (o i) := fun i i0 i1 => core_only hC hMl (fun I hI hcl => hnc (AnyCoal.of hI hcl)) i0 i1
      refine run_seq <| run_region <| rl_v rfl rfl rfl (ov_move rfl rfl) <| rl_v rfl rfl rfl (ov_len rfl Try.underlying23 rfl) <| rl_v rfl rfl rfl (ov_neq rfl rfl rfl) <| rl_v rfl rfl rfl (ov_move rfl rfl) ?_
      first | refine rl_noD 44 rfl (fun h => h rfl) ?_ | refine rl_no 44 rfl (fun h => h rfl) ?_
      refine rl_gv rfl rfl rfl rfl rfl (ov_loadW rfl Try.underlying47 rfl (by kernel_rfl) rfl hO42 3 rfl) ?_
      refine rl_gv rfl rfl rfl rfl rfl (ov_move rfl rfl) ?_
      refine rl_gcall callable_30 rfl rfl rfl rfl rfl rfl rfl rfl (refFails_yes ga1 am n1 gc1 cm L1 E1 M _ (by omega) hL9 (hT _ hO42.tail).tab (hM _ hO42.tail) hnc) (fun e51 w52 hp53 => ?_)
      obtain ⟨rfl, hb5⟩ := hp53
      refine ⟨_, rfl, ?_⟩
      have hO54 := hO42.past hb5
      refine rl_gv rfl rfl rfl rfl rfl (ov_not rfl rfl) <| rl_v rfl rfl rfl (ov_pick_f rfl rfl rfl) <| rl_v rfl rfl rfl (ov_move rfl rfl) ?_
      first | refine rl_noD 50 rfl (rfl) ?_ | refine rl_no 50 rfl (rfl) ?_
      refine rl_gv rfl rfl rfl rfl rfl (ov_move rfl rfl) <| rl_gv rfl rfl rfl rfl rfl (ov_move rfl rfl) ?_
      refine rl_gcall callable_14 rfl rfl rfl rfl rfl rfl rfl rfl (ints5_any am (some ⟨oc, 0, none⟩) n1 cm n1 n1 M o _ (by omega) (hM _ hO54.tail) (hO54.readsI 1 rfl)) (fun e55 w56 hp57 => ?_)
      obtain ⟨⟨y, rfl, hy⟩, hb6⟩ := hp57
      refine ⟨_, rfl, ?_⟩
      have hO58 := hO54.past hb6
      refine rl_gv rfl rfl rfl rfl rfl (ov_not rfl rfl) <| rl_gv rfl rfl rfl rfl rfl (ov_move rfl rfl) ?_
      first | refine rl_split_dec 55 rfl (fun g1 => ?_) (fun g1 => ?_) | refine rl_split 55 rfl (fun g1 => ?_) (fun g1 => ?_)
      ·refine rl_gv rfl rfl rfl rfl rfl (ov_loadW rfl Try.underlying47 rfl (by kernel_rfl) rfl hO58 3 rfl) ?_
       refine rl_gv rfl rfl rfl rfl rfl (ov_move rfl rfl) <| rl_gv rfl rfl rfl rfl rfl (ov_move rfl rfl) ?_
       refine rl_gcall callable_31 rfl rfl rfl rfl rfl rfl rfl rfl (sameYes_any ga1 am (some ⟨oc, 0, none⟩) n1 gc1 cm n1 L1 E1 M o _ (by omega) hL9 (hT _ hO58.tail).tab (hM _ hO58.tail) (hO58.readsI 1 rfl) hsame) (fun e60 w61 hp62 => ?_)
       obtain ⟨rfl, hb7⟩ := hp62
       refine ⟨_, rfl, ?_⟩
       have hO63 := hO58.past hb7
       refine rl_gv rfl rfl rfl rfl rfl (ov_not rfl rfl) <| rl_gv rfl rfl rfl rfl rfl (ov_pick_t rfl rfl rfl) <| rl_v rfl rfl rfl (ov_pick_f rfl rfl rfl) <| rl_nil ?_
       first | refine run_cond_dec rfl (fun bad => ?_) (fun bad => ?_) | refine run_cond rfl (fun bad => ?_) (fun bad => ?_)
       ·exfalso; exact Bool.noConfusion bad
       ·refine run_skip <| run_inBlock ?_
        refine Run.use (hk38 (0) _ ?_) (And.intro rfl (And.intro rfl (And.intro rfl (And.intro rfl (And.intro rfl trivial)))))
        exact hO63
      ·refine rl_gskip rfl rfl rfl rfl rfl rfl <| rl_gskip rfl rfl rfl rfl rfl rfl <| rl_gskip rfl rfl rfl rfl rfl rfl <| rl_gskip rfl rfl rfl rfl rfl rfl <| rl_gskip rfl rfl rfl rfl rfl rfl <| rl_gv rfl rfl rfl rfl rfl (ov_pick_f rfl rfl rfl) <| rl_v rfl rfl rfl (ov_pick_f rfl rfl rfl) <| rl_nil <| run_cond_f rfl <| run_skip <| run_inBlock ?_
       refine Run.use (hk38 (0) _ ?_) (And.intro rfl (And.intro rfl (And.intro rfl (And.intro rfl (And.intro rfl trivial)))))
       exact hO58
   ·intro z w37 hJw37
    have hOj := hJw37
    show Run _ _ _ _ [(5, _), (6, _), (7, _), (8, _), (10, _)] _ _
    refine run_seq <| run_region <| rl_v rfl rfl rfl (ov_move rfl rfl) <| rl_v rfl rfl rfl (ov_eql rfl rfl rfl) <| rl_nil ?_
    first | refine run_cond_dec rfl (fun c4 => ?_) (fun c4 => ?_) | refine run_cond rfl (fun c4 => ?_) (fun c4 => ?_)
    ·refine run_region <| rl_v rfl rfl rfl (ov_move rfl rfl) <| rl_v rfl rfl rfl (ov_fieldS rfl Try.underlying47 rfl (fo := 0) rfl (by kernel_rfl) rfl) ?_
     refine rl_v rfl rfl rfl (ov_load rfl Try.underlying22 rfl rfl (by exact hOj.cellL 3 rfl (off := 0) rfl)) ?_
     refine rl_v rfl rfl rfl (ov_len rfl Try.underlying22 rfl) ?_
     refine rl_call callable_32 rfl rfl rfl rfl rfl rfl (order5_any am lm cm n1 M _ (by omega) (by omega) (hM _ hOj.tail)) (fun e64 w65 hp66 => ?_)
     obtain ⟨a9, cp9, E9, c9, rfl, hr9, hO9⟩ := hp66
     refine ⟨_, rfl, ?_⟩
     have hO67 := hOj.join hO9
     refine rl_v rfl rfl rfl (ov_assign rfl rfl) <| rl_nil <| run_inBlock <| run_region <| rl_v rfl rfl rfl (ov_move rfl rfl) <| rl_v rfl rfl rfl (ov_add rfl rfl rfl (by omega)) ?_
     refine rl_v rfl rfl rfl (ov_assign rfl rfl) <| rl_nil ?_
     refine Run.use (ih32 (k + 1) (a9) (n1) (cp9) _ ?_ ?_) (And.intro (by exact slot_int rfl (by first | omega)) (And.intro rfl (And.intro rfl (And.intro rfl (And.intro rfl trivial)))))
     ·first | omega | (dsimp only; omega)
     ·exact ⟨by omega, by omega, E9, c9 :: R, fun ww h => hr9.reads h 1 rfl, .cons _ hsub, (hO67.perm p213).tail.perm p4x⟩
    ·refine run_region <| rl_v rfl rfl rfl (ov_move rfl rfl) <| rl_v rfl rfl rfl (ov_assign rfl rfl) <| rl_nil <| run_inBlock <| run_region <| rl_v rfl rfl rfl (ov_move rfl rfl) <| rl_v rfl rfl rfl (ov_add rfl rfl rfl (by omega)) ?_
     refine rl_v rfl rfl rfl (ov_assign rfl rfl) <| rl_nil ?_
     refine Run.use (ih32 (k + 1) (some ⟨oc, 0, none⟩) (n1) (n1) _ ?_ ?_) (And.intro (by exact slot_int rfl (by first | omega)) (And.intro rfl (And.intro rfl (And.intro rfl (And.intro rfl trivial)))))
     ·first | omega | (dsimp only; omega)
     ·exact ⟨by omega, by omega, o, R, fun ww h => h.readsI 0 rfl, hsub, hOj.tail⟩
  ·refine run_exit rfl <| run_seq <| run_region ?_
   refine rl_call callable_17 rfl rfl rfl rfl rfl rfl (awake5_any sortRows_all _) (fun e68 w69 hp70 => ?_)
   obtain ⟨rfl, hb9⟩ := hp70
   refine ⟨_, rfl, ?_⟩
   have hO71 := hO.past hb9
   refine rl_v rfl rfl rfl (ov_assign rfl rfl) <| rl_nil <| run_ret Try.func6 (res1 Try.results6 rfl) ?_
   exact ⟨rfl, hO71.below⟩
end Go.Proofs.Ytlldeifbfpmbaaa
