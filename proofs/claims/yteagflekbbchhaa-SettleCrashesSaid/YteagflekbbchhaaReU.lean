import Derived.Test.YteagflekbbchhaaReS
import Derived.Test.YteagflekbbchhaaReL
set_option maxRecDepth 100000
namespace Go.Proofs.Yteagflekbbchhaa
open Go.RowKit Go.Proofs
theorem start_lg (X : MW) (k n : Int) : (X.start k).lg n = X.lg n := by unfold MW.start; split <;> rfl
theorem start_bag' (X : MW) (k : Int) : (X.start k).bag = X.bag := by unfold MW.start; split <;> rfl
structure Whole (X : MW) (n k : Int) : Prop where
 n3 : N3 n
 up : (X.lg n).down = false
 sf : (X.lg n).safe = (X.lg n).recs.length
 k0 : 0 ≤ k
section
variable {X : MW} {n k : Int}
theorem Whole.eq (h : Whole X n k) : X.crash n k = (X.setLg n ⟨(X.lg n).recs, (X.lg n).recs.length, 0, true⟩).start n := by
 obtain ⟨hn, hd, hs, hk⟩ := h
 unfold MW.crash
 dsimp only
 rw [show ((((X.lg n).safe : Nat) : Int) + min k (((X.lg n).recs.length : Int) - ((X.lg n).safe : Nat))).toNat = (X.lg n).recs.length by omega, List.take_length]
theorem Whole.lg1 (h : Whole X n k) {m : Int} (hm : N3 m) : (X.crash n k).lg m = if m = n then ⟨(X.lg n).recs, (X.lg n).recs.length, 0, true⟩ else X.lg m := by
 rw [h.eq, start_lg, lg_setLg h.n3 hm]
theorem Whole.lgn (h : Whole X n k) : (X.crash n k).lg n = ⟨(X.lg n).recs, (X.lg n).recs.length, 0, true⟩ := by rw [h.lg1 h.n3, if_pos rfl]
theorem Whole.back (h : Whole X n k) : (X.crash n k).restart n = ((X.crash n k).setLg n ⟨(X.lg n).recs, (X.lg n).recs.length, 0, false⟩).start n := by
 unfold MW.restart
 dsimp only
 rw [h.lgn, if_pos rfl]
theorem Whole.lg2 (h : Whole X n k) {m : Int} (hm : N3 m) : ((X.crash n k).restart n).lg m = if m = n then ⟨(X.lg n).recs, (X.lg n).recs.length, 0, false⟩ else X.lg m := by
 rw [h.back, start_lg, lg_setLg h.n3 hm]
 split
 ·rfl
 ·next e => rw [h.lg1 hm, if_neg e]
theorem Whole.recs (h : Whole X n k) {m : Int} (hm : N3 m) : (((X.crash n k).restart n).lg m).recs = (X.lg m).recs := by
 rw [h.lg2 hm]
 split
 ·next e => rw [e]
 ·rfl
theorem Whole.st (h : Whole X n k) {m : Int} (hm : m = 1 ∨ m = 2) (d : Int) : (((X.crash n k).restart n).lg m).state d = (X.lg m).state d := by
 unfold Lg.state
 rw [h.recs (N3.s hm)]
theorem Whole.cfg (h : Whole X n k) : Proofs.Yteagflekbbchhaa.cfg ((X.crash n k).restart n) = Proofs.Yteagflekbbchhaa.cfg X := (cfg_restart _ _).trans (cfg_crash _ _ _)
theorem Whole.fst (h : Whole X n k) (m : Int) : ((X.crash n k).restart n).fst m = X.fst m := by
 have e1 : ((X.crash n k).restart n).f1 = X.f1 := congrArg (fun p => p.2.2.2.1) h.cfg
 have e2 : ((X.crash n k).restart n).f2 = X.f2 := congrArg (fun p => p.2.2.2.2) h.cfg
 unfold MW.fst
 rw [e1, e2]
theorem Whole.bal (h : Whole X n k) {m : Int} (hm : m = 1 ∨ m = 2) : ((X.crash n k).restart n).bal m = X.bal m := by
 unfold MW.bal
 rw [accs_cfg h.cfg, h.recs (N3.s hm)]
theorem Whole.free (h : Whole X n k) {m : Int} (hm : m = 1 ∨ m = 2) : ((X.crash n k).restart n).free m = X.free m := by
 funext i
 unfold MW.free MW.bal MW.held
 rw [accs_cfg h.cfg, h.recs (N3.s hm)]
theorem Whole.bag (h : Whole X n k) : ((X.crash n k).restart n).bag = X.bag := by
 rw [h.back, start_bag', setLg_bag, h.eq, start_bag', setLg_bag]
def wst (X : MW) (d : Int) : Int := if X.c.down = true then 0 else (X.kn d).st
theorem Whole.wst_ne (h : Whole X n k) (hn : n ≠ 0) (d : Int) : wst ((X.crash n k).restart n) d = wst X d := by
 have e1 : ((X.crash n k).restart n).kn = X.kn := by rw [h.back, start_ne hn, setLg_kn, h.eq, start_ne hn, setLg_kn]
 have e2 : ((X.crash n k).restart n).c = X.c := by rw [h.back, start_ne hn, setLg_c hn, h.eq, start_ne hn, setLg_c hn]
 unfold wst
 rw [e1, e2]
theorem Whole.wst_0 (h : Whole X n k) (hn : n = 0) (hI : Inv X) (hG : Good X) (d : Int) : (wst ((X.crash n k).restart n) d = 0 ∨ wst ((X.crash n k).restart n) d = 2) ∧ (wst X d = 2 → wst ((X.crash n k).restart n) d = 2) := by
 subst hn
 have e : (X.crash 0 k).restart 0 = ((X.crash 0 k).setLg 0 ⟨(X.lg 0).recs, (X.lg 0).recs.length, 0, false⟩).start 0 := h.back
 have e1 : ((X.crash 0 k).restart 0).c.down = false := by rw [e]; rfl
 have e2 : ((X.crash 0 k).restart 0).kn = MW.kn0 X.c.recs := by rw [e]; rfl
 have hk := kn0_2 hG.toGood0 (hG.toGood0.log (.inl rfl)) d
 have h3 : (X.lg 0).recs = X.c.recs := rfl
 unfold wst
 rw [e1, e2, if_neg (by decide)]
 refine ⟨hk.2.2.2, fun hd => hk.1.2 ?_⟩
 split at hd
 ·cases hd
 ·exact (hI.doing d hd).1
end
theorem step_inv (mem : Int) (f1 f2 : List Int) (b : Nat) (X : MW) (kind : Int) (d : Dl) (n kept : Int) (hk : kept ≤ 9223372036854775807) (h : LawR mem f1 f2 b X) (hI : Inv X) : Inv (X.step kind d n kept) := by
 by_cases c : IntKind.u64.wrap kind % 16 < 15
 ·rw [step_a c]; exact (act_keeps hI h.good kind d n kept hk).1
 ·rw [step_h c]
  unfold MW.hl
  split
  ·exact hI.heal h.good _
  ·exact hI
section
variable {A : WA} {X : MW} {n k : Int} {B : Nat} {R : List (Option Blk)} {w0 w : World}
theorem crashZ (h : Whole X n k) (hk : k ≤ 9223372036854775807) (hG : Good X) (hW : WAt B w0 w A X [] R) :
  Calls Try.prog 29 #[ptr A.W, iv n, iv k] w fun e w' => e = .returned (iv 0) ∧ WAt B w0 w' A (X.crash n k) [] R := by
 have := crashC A X n k B [] R w0 w hk hG hW
 rwa [if_pos h.n3, if_neg (by have := h.k0; omega), if_neg (fun e => Bool.noConfusion (h.up.symm.trans e.1)), if_pos ⟨h.n3, h.k0, fun e => Bool.noConfusion (h.up.symm.trans e.1)⟩] at this
theorem upZ (h : Whole X n k) (hW : WAt B w0 w A (X.crash n k) [] R) :
  Calls Try.prog 30 #[ptr A.W, iv n] w fun e w' => e = .returned (.bool false) ∧ WAt B w0 w' A (X.crash n k) [] R := by
 have := up_any A (X.crash n k) n B [] R w0 w h.n3 hW
 rwa [h.lgn] at this
theorem tickZ (h : Whole X n k) (hG : Good X) (hb : X.bag.length + 5000 < 4000000000000) (hW : WAt B w0 w A (X.crash n k) [] R) :
  Calls Try.prog 31 #[ptr A.W, iv n] w fun e w' => e = .returned (iv 80) ∧ WAt B w0 w' A (X.crash n k) [] R := by
 have e1 : (X.crash n k).bag = X.bag := by rw [h.eq, start_bag', setLg_bag]
 have := tick_any A (X.crash n k) n B [] R w0 w h.n3 (hG.crash h.n3 _) (by rw [e1]; exact hb) hW
 have e : (X.crash n k).tick0 n = X.crash n k := by unfold MW.tick0; rw [h.lgn, if_pos rfl]
 rw [e, h.lgn, if_pos rfl] at this
 exact this
theorem crashY (h : Whole X n k) (hG : Good X) (hW : WAt B w0 w A (X.crash n k) [] R) :
  Calls Try.prog 29 #[ptr A.W, iv n, iv 0] w fun e w' => e = .returned (iv 80) ∧ WAt B w0 w' A (X.crash n k) [] R := by
 have := crashC A (X.crash n k) n 0 B [] R w0 w (by decide) (hG.crash h.n3 _) hW
 have h2 : ((X.crash n k).lg n).down = true ∧ ((X.crash n k).lg n).safe = ((X.crash n k).lg n).recs.length := by rw [h.lgn]; exact ⟨rfl, rfl⟩
 rwa [if_pos h.n3, if_neg (by decide), if_pos h2, if_neg (fun e => e.2.2 h2)] at this
theorem restartZ (h : Whole X n k) (hG : Good X) (hW : WAt B w0 w A (X.crash n k) [] R) :
  Calls Try.prog 32 #[ptr A.W, iv n] w fun e w' => e = .returned (iv 0) ∧ WAt B w0 w' A ((X.crash n k).restart n) [] R := by
 have := restart_any A (X.crash n k) n B [] R w0 w h.n3 (hG.crash h.n3 _) hW
 rw [h.lgn, if_pos rfl] at this
 exact this
theorem upY (h : Whole X n k) (hW : WAt B w0 w A ((X.crash n k).restart n) [] R) :
  Calls Try.prog 30 #[ptr A.W, iv n] w fun e w' => e = .returned (.bool true) ∧ WAt B w0 w' A ((X.crash n k).restart n) [] R := by
 have := up_any A ((X.crash n k).restart n) n B [] R w0 w h.n3 hW
 rwa [h.lg2 h.n3, if_pos rfl] at this
theorem restartY (h : Whole X n k) (hG : Good X) (hW : WAt B w0 w A ((X.crash n k).restart n) [] R) :
  Calls Try.prog 32 #[ptr A.W, iv n] w fun e w' => e = .returned (iv 5) ∧ WAt B w0 w' A ((X.crash n k).restart n) [] R := by
 have := restart_any A ((X.crash n k).restart n) n B [] R w0 w h.n3 ((hG.crash h.n3 _).restart h.n3) hW
 have e : ((X.crash n k).restart n).restart n = (X.crash n k).restart n := by
  generalize hY : (X.crash n k).restart n = Y at *
  have h3 : (Y.lg n).down = false := by rw [← hY, h.lg2 h.n3, if_pos rfl]
  unfold MW.restart
  dsimp only
  rw [h3, if_neg (by decide)]
 rw [e, h.lg2 h.n3, if_pos rfl, if_neg (fun h => Bool.noConfusion h)] at this
 exact this
end
end Go.Proofs.Yteagflekbbchhaa
