import Derived.Test.YteagflekbbchhaaReS
import Derived.Test.YteagflekbbchhaaReL
set_option maxRecDepth 100000
namespace Go.Proofs.Yteagflekbbchhaa
open Go.RowKit Go.Proofs
def KnZ (X : MW) : Prop := ∀ d : Int, ¬ (1 ≤ d ∧ d ≤ X.deals.length) → (X.kn d).st = 0
section
variable {X : MW}
theorem KnZ.same {Y : MW} (h : KnZ X) (hk : Y.kn = X.kn) (hd : Y.deals = X.deals) : KnZ Y := fun d hd' => by rw [hk]; rw [hd] at hd'; exact h d hd'
theorem KnZ.setLg (h : KnZ X) (n : Int) (l : Lg) : KnZ (X.setLg n l) := h.same (setLg_kn X n l) (setLg_deals X n l)
theorem KnZ.know (h : KnZ X) {d : Int} (hd : 1 ≤ d ∧ d ≤ X.deals.length) (s : Ds) : KnZ (X.know d s) := fun e he => by
 show (upd X.kn d s e).st = 0
 rw [upd_ne _ _ (fun h => he (by rw [h]; exact hd))]
 exact h e he
theorem KnZ.both (h : KnZ X) (k d : Int) (h1 h2 : Bool) : KnZ (X.both k d h1 h2) := h.same (MW.both_same X k d h1 h2).2.2.2 (MW.both_same X k d h1 h2).2.1
theorem KnZ.turn (h : KnZ X) {d : Int} (hd : 1 ≤ d ∧ d ≤ X.deals.length) (st k : Int) : KnZ (X.turn d st k) := (h.know hd _).both k d false false
theorem startZ_lg (X : MW) (k n : Int) : (X.start k).lg n = X.lg n := by unfold MW.start; split <;> rfl
theorem KnZ.start {n : Int} (h : KnZ X) (hG : Good (X.start n)) : KnZ (X.start n) := by
 by_cases e : n = 0
 ·subst e
  intro d hd
  have hdl : (X.start 0).deals = X.deals := cfg_deals (cfg_start X 0)
  show (MW.kn0 X.c.recs d).st = 0
  rw [kn0_eq, if_neg]
  ·rfl
  ·rintro ⟨r, hr, rfl⟩
   exact hd (hG.rc 0 (.inl rfl) r (by rw [startZ_lg]; exact hr)).1
 ·rw [start_ne e]; exact h
theorem KnZ.cTake (h : KnZ X) {m : Ms} (hm : 1 ≤ m.d ∧ m.d ≤ X.deals.length) : KnZ (X.cTake m).1 := by
 unfold MW.cTake
 dsimp only
 split
 ·have h1 := h.know hm ((X.kn m.d).hear m.f)
  split
  ·split
   ·exact (h1.setLg 0 _).turn (by rw [setLg_deals]; exact hm) 2 4
   ·exact h1.setLg 0 _
  ·exact h1
 ·split
  ·exact h.same rfl rfl
  ·split
   ·exact h.same rfl rfl
   ·split
    ·exact h.turn hm 3 5
    ·split
     ·exact h.know hm _
     ·exact h
theorem sTake_kn (X : MW) (n : Int) (m : Ms) : (X.sTake n m).1.kn = X.kn := by
 unfold MW.sTake MW.sAsk
 dsimp only
 repeat' split
 all_goals first | rfl | exact setLg_kn X n _
theorem KnZ.bring (h : KnZ X) (hG : Good X) {m : Ms} (hm : MsOk X m) : KnZ (X.bring m) := by
 have hB := hG.bring hm
 unfold MW.bring at hB ⊢
 split
 ·exact h
 ·next hd =>
  rw [if_neg hd] at hB
  have hY : KnZ (X.take m).1 := by
   unfold MW.take
   split
   ·exact h.cTake hm.2
   ·exact h.same (sTake_kn X m.t m) (cfg_deals (cfg_sTake X m.t m))
  unfold MW.fin at hB ⊢
  split
  ·exact hY
  ·next e => rw [if_neg e] at hB; exact hY.start hB
theorem sTick_kn (X : MW) (n : Int) : ∀ k : Nat, (X.sTick n k).kn = X.kn
 | 0 => rfl
 | k + 1 => by
  show ((X.sTick n k).sTick1 n (k + 1)).kn = X.kn
  unfold MW.sTick1
  split
  ·exact sTick_kn X n k
  ·exact sTick_kn X n k
theorem KnZ.tick0 (h : KnZ X) (n : Int) : KnZ (X.tick0 n) := by
 unfold MW.tick0 MW.tick
 split
 ·exact h
 ·split
  ·intro d hd
   have hs := MW.cTick_same X X.deals.length
   rw [hs.2.1] at hd
   rw [hs.2.2.2.1 d (by omega)]
   exact h d hd
  ·exact h.same (sTick_kn X n _) (MW.sTick_same X n _).2.1
theorem KnZ.crash (h : KnZ X) (hG : Good X) {n : Int} (hn : N3 n) (k : Int) : KnZ (X.crash n k) := by
 have hC := hG.crash hn k
 unfold MW.crash at hC ⊢
 exact (h.setLg n _).start hC
theorem KnZ.restart (h : KnZ X) (hG : Good X) {n : Int} (hn : N3 n) : KnZ (X.restart n) := by
 have hC := hG.restart hn
 unfold MW.restart at hC ⊢
 dsimp only at hC ⊢
 split
 ·next e => rw [if_pos e] at hC; exact (h.setLg n _).start hC
 ·exact h
theorem KnZ.bringAll : ∀ (l : List Ms) (X : MW), KnZ X → Good X → (∀ m ∈ l, MsOk X m) → KnZ (X.bringAll l)
 | [], _, h, _, _ => h
 | m :: l, X, h, hG, hl => KnZ.bringAll l (X.bring m) (h.bring hG (hl m (List.mem_cons_self ..))) (hG.bring (hl m (List.mem_cons_self ..))) fun x hx => (hl x (List.mem_cons_of_mem _ hx)).cfg (cfg_bring X m).symm
theorem KnZ.round (h : KnZ X) (hG : Good X) : KnZ X.round :=
 (((KnZ.bringAll X.bag { X with bag := [] } (h.same rfl rfl) (hG.sub (l := []) (fun _ h => nomatch h)) fun m hm => hG.bg m hm).tick0 0).tick0 1).tick0 2
theorem KnZ.rounds (h : KnZ X) (hG : Good X) : ∀ k, KnZ (X.rounds k)
 | 0 => h
 | k + 1 => (h.rounds hG k).round (hG.rounds k)
theorem KnZ.wake1 (h : KnZ X) (hG : Good X) {n : Int} (hn : N3 n) : KnZ (X.wake1 n) := (h.restart hG hn).setLg n _
theorem KnZ.heal (h : KnZ X) (hG : Good X) (k : Nat) : KnZ (X.heal k) :=
 (((h.wake1 hG (.inl rfl)).wake1 (hG.wake1 (.inl rfl)) (.inr (.inl rfl))).wake1 ((hG.wake1 (.inl rfl)).wake1 (.inr (.inl rfl))) (.inr (.inr rfl))).rounds hG.wake k
theorem KnZ.begin (h : KnZ X) (x : Dl) : KnZ (X.begin x) := by
 have hD : KnZ { X with deals := X.deals ++ [x] } := fun d hd => h d fun e => hd ⟨e.1, by show d ≤ ((X.deals ++ [x]).length : Int); simp; omega⟩
 exact hD.turn ⟨by omega, by show (X.deals.length : Int) + 1 ≤ ((X.deals ++ [x]).length : Int); simp⟩ 1 1
theorem KnZ.act (h : KnZ X) (hG : Good X) (kind : Int) (d : Dl) (n kept : Int) : KnZ (X.act kind d n kept) := by
 unfold MW.act
 dsimp only
 split
 ·split
  ·exact h.begin d
  ·exact h
 ·split
  ·split
   ·next hi => exact (h.same rfl rfl : KnZ (X.dropAt n.toNat)).bring (hG.dropAt _) (hG.bg _ (getD_bag hi))
   ·exact h
  ·split
   ·split
    ·exact h.same rfl rfl
    ·exact h
   ·split
    ·split
     ·exact h.same rfl rfl
     ·exact h
    ·split
     ·split
      ·exact h.tick0 n
      ·exact h
     ·split
      ·split
       ·next hn => exact h.crash hG hn.1 _
       ·exact h
      ·split
       ·split
        ·next hn => exact h.restart hG hn
        ·exact h
       ·split
        ·split
         ·exact h.setLg n _
         ·exact h
        ·exact h.heal hG _
end
theorem step_knz (mem : Int) (f1 f2 : List Int) (b : Nat) (X : MW) (kind : Int) (d : Dl) (n kept : Int) (_ : kept ≤ 9223372036854775807) (h : LawR mem f1 f2 b X) (hI : KnZ X) : KnZ (X.step kind d n kept) := by
 by_cases c : IntKind.u64.wrap kind % 16 < 15
 ·rw [step_a c]; exact hI.act h.good kind d n kept
 ·rw [step_h c]
  unfold MW.hl
  split
  ·exact hI.heal h.good _
  ·exact hI
theorem bal_none (A : WA) (X : MW) (n : Int) (B : Nat) (Pl R : List (Option Blk)) (w0 w : World) (hn : ¬ (n = 1 ∨ n = 2)) (h : WAt B w0 w A X Pl R) :
  Calls Try.prog 24 #[ptr A.W, iv n] w fun e w' => e = .returned (.tuple #[.slice none 0 0, iv 4]) ∧ WAt B w0 w' A X Pl R := by
 obtain ⟨K, N, hO, hK, hPl⟩ := h
 refine calls_of_run (F := [(0, _), (1, _)]) Try.func24 rfl Try.ntmps24 rfl rfl <| run_seq <| run_region <| rl_v rfl rfl rfl (ov_assign rfl rfl) <| rl_v rfl rfl rfl (ov_assign rfl rfl) <| rl_nil <| run_seq <| run_region <| rl_v rfl rfl rfl (ov_move rfl rfl) <| rl_v rfl rfl rfl (ov_move rfl rfl) ?_
 refine rl_call callable_51 rfl rfl rfl rfl rfl rfl (site_none A X K n 0 B _ w0 w hn hO rfl) (fun e1 w2 hp3 => ?_)
 obtain ⟨rfl, hO2⟩ := hp3
 refine ⟨_, rfl, ?_⟩
 refine rl_v rfl rfl rfl (ov_move rfl rfl) <| rl_v rfl rfl rfl (ov_extract rfl rfl (by rfl)) ?_
 refine rl_v rfl rfl rfl (ov_extract rfl rfl (by rfl)) ?_
 refine rl_v rfl rfl rfl (ov_assign rfl rfl) <| rl_v rfl rfl rfl (ov_assign rfl rfl) <| rl_nil <| run_seq <| run_seq <| run_region <| rl_v rfl rfl rfl (ov_move rfl rfl) <| rl_v rfl rfl rfl (ov_neq rfl rfl rfl) <| rl_nil ?_
 first | refine run_cond_dec rfl (fun g1 => ?_) (fun g1n => ?_) | refine run_cond rfl (fun g1 => ?_) (fun g1n => ?_)
 ·refine run_seq <| run_region <| rl_v rfl rfl rfl (ov_move rfl rfl) <| rl_v rfl rfl rfl (ov_assign rfl rfl) <| rl_v rfl rfl rfl (ov_assign rfl rfl) <| rl_nil <| run_ret Try.func24 (res2 Try.results24 rfl rfl) ?_
  exact ⟨rfl, K, N, hO2, hK, hPl⟩
 ·exfalso; exact absurd g1n (by decide)
theorem free_none (A : WA) (X : MW) (n : Int) (B : Nat) (Pl R : List (Option Blk)) (w0 w : World) (hn : ¬ (n = 1 ∨ n = 2)) (h : WAt B w0 w A X Pl R) :
  Calls Try.prog 16 #[ptr A.W, iv n] w fun e w' => e = .returned (.tuple #[.slice none 0 0, iv 4]) ∧ WAt B w0 w' A X Pl R := by
 obtain ⟨K, N, hO, hK, hPl⟩ := h
 refine calls_of_run (F := [(0, _), (1, _)]) Try.func16 rfl Try.ntmps16 rfl rfl <| run_seq <| run_region <| rl_v rfl rfl rfl (ov_assign rfl rfl) <| rl_v rfl rfl rfl (ov_assign rfl rfl) <| rl_nil <| run_seq <| run_region <| rl_v rfl rfl rfl (ov_move rfl rfl) <| rl_v rfl rfl rfl (ov_move rfl rfl) ?_
 refine rl_call callable_51 rfl rfl rfl rfl rfl rfl (site_none A X K n 0 B _ w0 w hn hO rfl) (fun e1 w2 hp3 => ?_)
 obtain ⟨rfl, hO2⟩ := hp3
 refine ⟨_, rfl, ?_⟩
 refine rl_v rfl rfl rfl (ov_move rfl rfl) <| rl_v rfl rfl rfl (ov_extract rfl rfl (by rfl)) ?_
 refine rl_v rfl rfl rfl (ov_extract rfl rfl (by rfl)) ?_
 refine rl_v rfl rfl rfl (ov_assign rfl rfl) <| rl_v rfl rfl rfl (ov_assign rfl rfl) <| rl_nil <| run_seq <| run_seq <| run_region <| rl_v rfl rfl rfl (ov_move rfl rfl) <| rl_v rfl rfl rfl (ov_neq rfl rfl rfl) <| rl_nil ?_
 first | refine run_cond_dec rfl (fun g1 => ?_) (fun g1n => ?_) | refine run_cond rfl (fun g1 => ?_) (fun g1n => ?_)
 ·refine run_seq <| run_region <| rl_v rfl rfl rfl (ov_move rfl rfl) <| rl_v rfl rfl rfl (ov_assign rfl rfl) <| rl_v rfl rfl rfl (ov_assign rfl rfl) <| rl_nil <| run_ret Try.func16 (res2 Try.results16 rfl rfl) ?_
  exact ⟨rfl, K, N, hO2, hK, hPl⟩
 ·exfalso; exact absurd g1n (by decide)
theorem log_none (A : WA) (X : MW) (n : Int) (B : Nat) (Pl R : List (Option Blk)) (w0 w : World) (hn : ¬ (n = 0 ∨ n = 1 ∨ n = 2)) (h : WAt B w0 w A X Pl R) :
  Calls Try.prog 23 #[ptr A.W, iv n] w fun e w' => e = .returned (.tuple #[iv 0, iv 0]) ∧ WAt B w0 w' A X Pl R := by
 obtain ⟨K, N, hO, hK, hPl⟩ := h
 refine calls_of_run (F := [(0, _), (1, _)]) Try.func23 rfl Try.ntmps23 rfl rfl <| run_seq <| run_region <| rl_v rfl rfl rfl (ov_assign rfl rfl) <| rl_v rfl rfl rfl (ov_assign rfl rfl) <| rl_nil <| run_seq <| run_region <| rl_v rfl rfl rfl (ov_move rfl rfl) <| rl_v rfl rfl rfl (ov_move rfl rfl) ?_
 refine rl_call callable_58 rfl rfl rfl rfl rfl rfl (node_none A.W n B _ w0 w hn hO) (fun e1 w2 hp3 => ?_)
 obtain ⟨rfl, hO2⟩ := hp3
 refine ⟨_, rfl, ?_⟩
 refine rl_v rfl rfl rfl (ov_move rfl rfl) <| rl_v rfl rfl rfl (ov_extract rfl rfl (by rfl)) ?_
 refine rl_v rfl rfl rfl (ov_extract rfl rfl (by rfl)) ?_
 refine rl_v rfl rfl rfl (ov_assign rfl rfl) <| rl_v rfl rfl rfl (ov_assign rfl rfl) <| rl_nil <| run_seq <| run_seq <| run_region <| rl_v rfl rfl rfl (ov_move rfl rfl) <| rl_v rfl rfl rfl (ov_neq rfl rfl rfl) <| rl_nil ?_
 first | refine run_cond_dec rfl (fun g1 => ?_) (fun g1n => ?_) | refine run_cond rfl (fun g1 => ?_) (fun g1n => ?_)
 ·refine run_seq <| run_region <| rl_v rfl rfl rfl (ov_assign rfl rfl) <| rl_v rfl rfl rfl (ov_assign rfl rfl) <| rl_nil <| run_ret Try.func23 (res2 Try.results23 rfl rfl) ?_
  exact ⟨rfl, K, N, hO2, hK, hPl⟩
 ·exfalso; exact absurd g1n (by decide)
theorem up_none (A : WA) (X : MW) (n : Int) (B : Nat) (Pl R : List (Option Blk)) (w0 w : World) (hn : ¬ (n = 0 ∨ n = 1 ∨ n = 2)) (h : WAt B w0 w A X Pl R) :
  Calls Try.prog 30 #[ptr A.W, iv n] w fun e w' => e = .returned (.bool false) ∧ WAt B w0 w' A X Pl R := by
 obtain ⟨K, N, hO, hK, hPl⟩ := h
 refine calls_of_run (F := [(0, _), (1, _)]) Try.func30 rfl Try.ntmps30 rfl rfl <| run_seq <| run_region <| rl_v rfl rfl rfl (ov_assign rfl rfl) <| rl_nil <| run_seq <| run_region <| rl_v rfl rfl rfl (ov_move rfl rfl) <| rl_v rfl rfl rfl (ov_move rfl rfl) ?_
 refine rl_call callable_58 rfl rfl rfl rfl rfl rfl (node_none A.W n B _ w0 w hn hO) (fun e1 w2 hp3 => ?_)
 obtain ⟨rfl, hO2⟩ := hp3
 refine ⟨_, rfl, ?_⟩
 refine rl_v rfl rfl rfl (ov_move rfl rfl) <| rl_v rfl rfl rfl (ov_extract rfl rfl (by rfl)) ?_
 refine rl_v rfl rfl rfl (ov_extract rfl rfl (by rfl)) ?_
 refine rl_v rfl rfl rfl (ov_assign rfl rfl) <| rl_v rfl rfl rfl (ov_assign rfl rfl) <| rl_nil <| run_seq <| run_region <| rl_v rfl rfl rfl (ov_move rfl rfl) <| rl_v rfl rfl rfl (ov_eql rfl rfl rfl) <| rl_v rfl rfl rfl (ov_move rfl rfl) ?_
 first | refine rl_noD 15 rfl (by decide) ?_ | refine rl_no 15 rfl (by decide) ?_
 refine rl_gskip rfl rfl rfl rfl rfl rfl <| rl_gskip rfl rfl rfl rfl rfl rfl <| rl_gskip rfl rfl rfl rfl rfl rfl <| rl_gskip rfl rfl rfl rfl rfl rfl <| rl_gskip rfl rfl rfl rfl rfl rfl <| rl_gskip rfl rfl rfl rfl rfl rfl <| rl_v rfl rfl rfl (ov_pick_f rfl rfl rfl) <| rl_v rfl rfl rfl (ov_assign rfl rfl) <| rl_nil <| run_ret Try.func30 (res1 Try.results30 rfl) ?_
 exact ⟨rfl, K, N, hO2, hK, hPl⟩
theorem stateZ (A : WA) (X : MW) (d : Int) (B : Nat) (Pl R : List (Option Blk)) (w0 w : World) (hK : KnZ X) (hd : ¬ (1 ≤ d ∧ d ≤ X.deals.length)) (h : WAt B w0 w A X Pl R) :
  Calls Try.prog 34 #[ptr A.W, iv d] w fun e w' => e = .returned (iv 0) ∧ WAt B w0 w' A X Pl R := by
 have := wstate_any A X d B Pl R w0 w h
 rw [hK d hd] at this
 simpa using this
theorem state_out {X : MW} (hG : Good X) {n d : Int} (hn : n = 1 ∨ n = 2) (hd : ¬ (1 ≤ d ∧ d ≤ X.deals.length)) : (X.lg n).state d = 0 := by
 have h : ∀ k : Int, (k, d) ∉ (X.lg n).recs := fun k hk => hd (srec hG hn _ hk).1
 unfold Lg.state
 rw [if_neg (h 3), if_neg (h 2), if_neg (h 1)]
theorem atZ (A : WA) (X : MW) (d : Int) (B : Nat) (Pl R : List (Option Blk)) (w0 w : World) (hG : Good X) (hd : ¬ (1 ≤ d ∧ d ≤ X.deals.length)) (h : WAt B w0 w A X Pl R) :
  Calls Try.prog 19 #[ptr A.W, iv 1, iv d] w fun e w' => e = .returned (iv 0) ∧ WAt B w0 w' A X Pl R := by
 have := at_any A X 1 d B Pl R w0 w (.inl rfl) hG h
 rwa [state_out hG (.inl rfl) hd] at this
end Go.Proofs.Yteagflekbbchhaa
