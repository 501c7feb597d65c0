import Derived.Test.YtfbbagnpdfafjaaHaD
import Derived.Test.YtfbbagnpdfafjaaMaps
set_option maxRecDepth 100000
namespace Go.Proofs.Ytfbbagnpdfafjaa
open Go.RowKit Go.Proofs
def neeF (r : HR) (mv : Int → Int → Int) (a : HA) : Int := marF mv r.mn r.rate a.pos r.pr
theorem need_any (hb B k : Nat) (r : HR) (mv : Int → Int → Int) (a : HA) (H : List (Option Blk)) (w0 w : World) (hO : Own B w0 w H) (hk : H[k]? = some (houB hb r)) (hmv : SrcS H r.ma 12 r.mn (fun i => monL (mv i))) (hB : HBd r mv) (hp : Bd a.pos 2000000) (hr : PBd r.pr) :
  Calls Try.prog 63 #[ptr hb, .agg (accL a).toArray] w fun e w' => e = .returned (iv (neeF r mv a)) ∧ Own B w0 w' H := by
 refine calls_of_run (F := [(0, _), (1, _)]) Try.func63 rfl Try.ntmps63 rfl rfl <| run_seq <| run_region <| rl_ow rfl (ow_box _ rfl rfl rfl rfl rfl hO) ?_
 rintro _ w1 ⟨b3, rfl, hO2, hs3⟩
 refine rl_v rfl rfl rfl (ov_assign rfl rfl) <| rl_nil <| run_seq <| run_class (Cl B w0 (some (lch b3 127 (accL a)) :: H)) (⟨hO2.drew⟩) mixed (by kernel_rfl) ?_
 refine rk_v rfl rfl rfl (fun wq hQ => ov_move rfl rfl) ?_
 refine rk_v rfl rfl rfl (fun wq hQ => ov_fieldS rfl Try.underlying127 rfl (fo := 2) rfl (by kernel_rfl) rfl) ?_
 refine rk_v rfl rfl rfl (fun wq hQ => ov_loadN rfl Try.underlying118 rfl (by kernel_rfl) rfl ((hQ.own).rangeSub 0 2 rfl (accL_mon a))) ?_
 refine rk_v rfl rfl rfl (fun wq hQ => ov_move rfl rfl) ?_
 refine rk_v rfl rfl rfl (fun wq hQ => ov_nil rfl rfl) ?_
 refine rk_v rfl rfl rfl (fun wq hQ => ov_fieldS rfl Try.underlying124 rfl (fo := 1) rfl (by kernel_rfl) rfl) ?_
 refine rk_v rfl rfl rfl (fun wq hQ => ov_loadN rfl Try.underlying118 rfl (by kernel_rfl) rfl ((hQ.own).rangeSub (k + 1) 1 hk r.l_mon)) ?_
 refine rk_call callable_89 rfl rfl rfl rfl rfl rfl (fun wq hQ => (margin_any hb B (k + 1) r mv a.pos r.pr _ w0 wq (hQ.own) hk hmv.cons hB hp hr).mono fun _ _ h => ⟨h.1, ⟨h.2⟩⟩) ?_
 refine rk_v rfl rfl rfl (fun wq hQ => ov_assign rfl rfl) ?_
 refine rk_nil (fun w7 hQ => ?_)
 refine run_ret Try.func63 (res1 Try.results63 rfl) ?_
 exact ⟨rfl, (hQ.own).tail⟩
theorem covered_any (hb B k : Nat) (r : HR) (mv : Int → Int → Int) (a : HA) (H : List (Option Blk)) (w0 w : World) (hO : Own B w0 w H) (hk : H[k]? = some (houB hb r)) (hmv : SrcS H r.ma 12 r.mn (fun i => monL (mv i))) (hB : HBd r mv) (hp : Bd a.pos 2000000) (hr : PBd r.pr) :
  Calls Try.prog 73 #[ptr hb, .agg (accL a).toArray] w fun e w' => e = .returned (.bool (decide (neeF r mv a ≤ a.cash))) ∧ Own B w0 w' H := by
 refine calls_of_run (F := [(0, _), (1, _)]) Try.func73 rfl Try.ntmps73 rfl rfl <| run_seq <| run_region <| rl_ow rfl (ow_box _ rfl rfl rfl rfl rfl hO) ?_
 rintro _ w1 ⟨b3, rfl, hO2, hs3⟩
 refine rl_v rfl rfl rfl (ov_assign rfl rfl) <| rl_nil <| run_seq <| run_class (Cl B w0 (some (lch b3 127 (accL a)) :: H)) (⟨hO2.drew⟩) mixed (by kernel_rfl) ?_
 refine rk_v rfl rfl rfl (fun wq hQ => ov_fieldS rfl Try.underlying127 rfl (fo := 0) rfl (by kernel_rfl) rfl) ?_
 refine rk_v rfl rfl rfl (fun wq hQ => ov_load rfl Try.underlying2 rfl rfl (by exact (hQ.own).cellL 0 rfl (off := 0) rfl)) ?_
 refine rk_v rfl rfl rfl (fun wq hQ => ov_move rfl rfl) ?_
 refine rk_v rfl rfl rfl (fun wq hQ => ov_loadW rfl Try.underlying127 rfl (by kernel_rfl) rfl (hQ.own) 0 rfl) ?_
 refine rk_call callable_63 rfl rfl rfl rfl rfl rfl (fun wq hQ => (need_any hb B (k + 1) r mv a _ w0 wq (hQ.own) hk hmv.cons hB hp hr).mono fun _ _ h => ⟨h.1, ⟨h.2⟩⟩) ?_
 refine rk_v rfl rfl rfl (fun wq hQ => ov_geq rfl rfl rfl) ?_
 refine rk_v rfl rfl rfl (fun wq hQ => ov_assign rfl rfl) ?_
 refine rk_nil (fun w7 hQ => ?_)
 refine run_ret Try.func73 (res1 Try.results73 rfl) ?_
 exact ⟨rfl, (hQ.own).tail⟩
def alwF (r : HR) (mv : Int → Int → Int) (a b : HA) : Prop := neeF r mv b ≤ b.cash ∨ neeF r mv b ≤ neeF r mv a ∧ a.cash ≤ b.cash
instance (r : HR) (mv : Int → Int → Int) (a b : HA) : Decidable (alwF r mv a b) := by unfold alwF; exact inferInstance
theorem allows_any (hb B k : Nat) (r : HR) (mv : Int → Int → Int) (a b : HA) (H : List (Option Blk)) (w0 w : World) (hO : Own B w0 w H) (hk : H[k]? = some (houB hb r)) (hmv : SrcS H r.ma 12 r.mn (fun i => monL (mv i))) (hB : HBd r mv) (hp : Bd a.pos 2000000) (hq : Bd b.pos 2000000) (hr : PBd r.pr) :
  Calls Try.prog 65 #[ptr hb, .agg (accL a).toArray, .agg (accL b).toArray] w fun e w' => e = .returned (.bool (decide (alwF r mv a b))) ∧ Own B w0 w' H := by
 refine calls_of_run (F := [(0, _), (1, _), (2, _)]) Try.func65 rfl Try.ntmps65 rfl rfl <| run_seq <| run_region <| rl_ow rfl (ow_box _ rfl rfl rfl rfl rfl hO) ?_
 rintro _ w1 ⟨b4, rfl, hO2, hs3⟩
 refine rl_ow rfl (ow_box _ rfl rfl rfl rfl rfl hO2) ?_
 rintro _ w4 ⟨b5, rfl, hO5, hs6⟩
 refine rl_v rfl rfl rfl (ov_assign rfl rfl) <| rl_nil <| run_seq <| run_class (Cl B w0 (some (lch b5 127 (accL b)) :: some (lch b4 127 (accL a)) :: H)) (⟨hO5.drew⟩) mixed (by kernel_rfl) ?_
 refine rk_v rfl rfl rfl (fun wq hQ => ov_move rfl rfl) ?_
 refine rk_v rfl rfl rfl (fun wq hQ => ov_loadW rfl Try.underlying127 rfl (by kernel_rfl) rfl (hQ.own) 0 rfl) ?_
 refine rk_call callable_73 rfl rfl rfl rfl rfl rfl (fun wq hQ => (covered_any hb B (k + 2) r mv b _ w0 wq (hQ.own) hk hmv.cons.cons hB hq hr).mono fun _ _ h => ⟨h.1, ⟨h.2⟩⟩) ?_
 refine rk_v rfl rfl rfl (fun wq hQ => ov_move rfl rfl) ?_
 first | refine rk_split_dec 10 rfl (fun g1 => ?_) (fun g1 => ?_) | refine rk_split 10 rfl (fun g1 => ?_) (fun g1 => ?_)
 ·refine rk_gskip rfl rfl rfl rfl rfl rfl <| rk_gskip rfl rfl rfl rfl rfl rfl <| rk_gskip rfl rfl rfl rfl rfl rfl <| rk_gskip rfl rfl rfl rfl rfl rfl <| rk_gskip rfl rfl rfl rfl rfl rfl <| rk_gskip rfl rfl rfl rfl rfl rfl <| rk_gskip rfl rfl rfl rfl rfl rfl <| rk_gskip rfl rfl rfl rfl rfl rfl <| rk_gundef rfl rfl rfl rfl rfl <| rk_gundef rfl rfl rfl rfl rfl <| rk_gundef rfl rfl rfl rfl rfl <| rk_gundef rfl rfl rfl rfl rfl <| rk_gundef rfl rfl rfl rfl rfl <| rk_gskip rfl rfl rfl rfl rfl rfl <| rk_v rfl rfl rfl (fun wq hQ => ov_pick_t rfl rfl rfl) ?_
  refine rk_v rfl rfl rfl (fun wq hQ => ov_assign rfl rfl) ?_
  refine rk_nil (fun w11 hQ => ?_)
  refine run_ret Try.func65 (res1 Try.results65 rfl) ?_
  exact ⟨by rw [decide_eq_true (show alwF r mv a b from .inl g1)], (hQ.own).tail.tail⟩
 ·refine rk_gv rfl rfl rfl rfl rfl (fun wq hQ => ov_move rfl rfl) ?_
  refine rk_gv rfl rfl rfl rfl rfl (fun wq hQ => ov_loadW rfl Try.underlying127 rfl (by kernel_rfl) rfl (hQ.own) 0 rfl) ?_
  refine rk_gcall callable_63 rfl rfl rfl rfl rfl rfl rfl rfl (fun wq hQ => (need_any hb B (k + 2) r mv b _ w0 wq (hQ.own) hk hmv.cons.cons hB hq hr).mono fun _ _ h => ⟨h.1, ⟨h.2⟩⟩) ?_
  refine rk_gv rfl rfl rfl rfl rfl (fun wq hQ => ov_move rfl rfl) ?_
  refine rk_gv rfl rfl rfl rfl rfl (fun wq hQ => ov_loadW rfl Try.underlying127 rfl (by kernel_rfl) rfl (hQ.own) 1 rfl) ?_
  refine rk_gcall callable_63 rfl rfl rfl rfl rfl rfl rfl rfl (fun wq hQ => (need_any hb B (k + 2) r mv a _ w0 wq (hQ.own) hk hmv.cons.cons hB hp hr).mono fun _ _ h => ⟨h.1, ⟨h.2⟩⟩) ?_
  refine rk_gv rfl rfl rfl rfl rfl (fun wq hQ => ov_leq rfl rfl rfl) ?_
  refine rk_gv rfl rfl rfl rfl rfl (fun wq hQ => ov_move rfl rfl) ?_
  first | refine rk_split_dec 18 rfl (fun g2 => ?_) (fun g2 => ?_) | refine rk_split 18 rfl (fun g2 => ?_) (fun g2 => ?_)
  ·refine rk_gv rfl rfl rfl rfl rfl (fun wq hQ => ov_fieldS rfl Try.underlying127 rfl (fo := 0) rfl (by kernel_rfl) rfl) ?_
   refine rk_gv rfl rfl rfl rfl rfl (fun wq hQ => ov_load rfl Try.underlying2 rfl rfl (by exact (hQ.own).cellL 0 rfl (off := 0) rfl)) ?_
   refine rk_gv rfl rfl rfl rfl rfl (fun wq hQ => ov_fieldS rfl Try.underlying127 rfl (fo := 0) rfl (by kernel_rfl) rfl) ?_
   refine rk_gv rfl rfl rfl rfl rfl (fun wq hQ => ov_load rfl Try.underlying2 rfl rfl (by exact (hQ.own).cellL 1 rfl (off := 0) rfl)) ?_
   refine rk_gv rfl rfl rfl rfl rfl (fun wq hQ => ov_geq rfl rfl rfl) ?_
   refine rk_gv rfl rfl rfl rfl rfl (fun wq hQ => ov_pick_t rfl rfl rfl) ?_
   refine rk_v rfl rfl rfl (fun wq hQ => ov_pick_f rfl rfl rfl) ?_
   refine rk_v rfl rfl rfl (fun wq hQ => ov_assign rfl rfl) ?_
   refine rk_nil (fun w19 hQ => ?_)
   refine run_ret Try.func65 (res1 Try.results65 rfl) ?_
   exact ⟨by unfold alwF; simp [g1, g2], (hQ.own).tail.tail⟩
  ·refine rk_gskip rfl rfl rfl rfl rfl rfl <| rk_gskip rfl rfl rfl rfl rfl rfl <| rk_gskip rfl rfl rfl rfl rfl rfl <| rk_gskip rfl rfl rfl rfl rfl rfl <| rk_gskip rfl rfl rfl rfl rfl rfl <| rk_gv rfl rfl rfl rfl rfl (fun wq hQ => ov_pick_f rfl rfl rfl) ?_
   refine rk_v rfl rfl rfl (fun wq hQ => ov_pick_f rfl rfl rfl) ?_
   refine rk_v rfl rfl rfl (fun wq hQ => ov_assign rfl rfl) ?_
   refine rk_nil (fun w20 hQ => ?_)
   refine run_ret Try.func65 (res1 Try.results65 rfl) ?_
   exact ⟨by unfold alwF; simp [g1, g2], (hQ.own).tail.tail⟩
structure HM where
 mem : Nat
 mo : Int
 pr : Int → Int
 k : Nat
 mv : Int → Int → Int
 rate : Int
 cap : Int
 hole : Int
 ac : Int → HA
 n : Nat
 ct : Int → Ct
structure HK where
 ma : Option Addr
 mc : Nat
 ab : Nat
 acap : Nat
 ca : Option Addr
 cc : Nat
 blk : Option Blk
def HM.r (X : HM) (K : HK) : HR := ⟨X.mo, X.pr, K.ma, X.k, K.mc, X.rate, X.cap, X.hole, some ⟨K.ab, 0, none⟩, X.mem, K.acap, K.ca, X.n, K.cc⟩
structure HOk (X : HM) (K : HK) (N : List (Option Blk)) : Prop where
 acc : SRow (.slice (some ⟨K.ab, 0, none⟩) X.mem K.acap) 127 15 X.mem (fun i => accL (X.ac i)) K.blk
 mv : SrcS N K.ma 12 X.k (fun i => monL (X.mv i))
 ct : SrcS N K.ca 5 X.n (fun i => ctL (X.ct i))
 cz : ∃ b, 0 < X.n → K.ca = some ⟨b, 0, none⟩
 cc : X.n ≤ K.cc
structure HG (X : HM) : Prop where
 mem : 1 ≤ X.mem ∧ X.mem ≤ 64
 mo : 0 ≤ X.mo ∧ X.mo ≤ 12
 pr : ∀ m : Int, 0 ≤ m → m < 12 → 0 ≤ X.pr m ∧ X.pr m ≤ 1000000
 k : X.k ≤ 64
 mv : ∀ i : Int, 0 ≤ i → i < X.k → Bd (X.mv i) 1000000
 rate : 0 ≤ X.rate ∧ X.rate ≤ 1000
 cap : 0 ≤ X.cap ∧ X.cap ≤ 1000000000000
 hole : 0 ≤ X.hole ∧ X.hole ≤ 100000000000000000
 pos : ∀ i : Int, 0 ≤ i → i < X.mem → Bd (X.ac i).pos 1000000
 cash : ∀ i : Int, 0 ≤ i → i < X.mem → (X.ac i).cash.natAbs ≤ 10000000000000000
 fund : ∀ i : Int, 0 ≤ i → i < X.mem → 0 ≤ (X.ac i).fund ∧ (X.ac i).fund ≤ 10000000000000000
 n : X.n ≤ 1000000
def HAt (B : Nat) (w0 w : World) (hb : Nat) (X : HM) (Pl R : List (Option Blk)) : Prop := ∃ K N, Own B w0 w (houB hb (X.r K) :: K.blk :: (N ++ R)) ∧ HOk X K N ∧ Pl.Sublist N
theorem HG.bd {X : HM} (h : HG X) (K : HK) : HBd (X.r K) X.mv := ⟨h.rate, Nat.le_trans h.k (by decide), h.mv⟩
theorem HG.pbd {X : HM} (h : HG X) : PBd X.pr := ⟨fun m m0 m1 => by have := h.pr m m0 m1; omega⟩
theorem Bd.mono {p : Int → Int} {A C : Nat} (h : Bd p A) (hA : A ≤ C) : Bd p C := fun m m0 m1 => Nat.le_trans (h m m0 m1) hA
theorem SrcS.sub {N M : List (Option Blk)} {ao : Option Addr} {s m : Nat} {G : Int → List Value} (h : SrcS N ao s m G) (hs : N.Sublist M) : SrcS M ao s m G := fun B w0 w hO => h B w0 w (hO.sub hs)
def HM.acct (X : HM) (i : Int) : HA := X.ac (i - 1)
def HM.is (X : HM) (i : Int) : Prop := 1 ≤ i ∧ i ≤ X.mem
instance (X : HM) (i : Int) : Decidable (X.is i) := by unfold HM.is; exact inferInstance
def HM.act (X : HM) (i : Int) : Int := if X.is i then if (X.acct i).out then 5 else 0 else 4
theorem HOk.reads {X : HM} {K : HK} {N H : List (Option Blk)} {B : Nat} {w0 w : World} (hK : HOk X K N) (hO : Own B w0 w H) (k : Nat) (hk : H[k]? = some K.blk) : ∀ i : Int, 0 ≤ i → i < X.mem → ∀ fo, fo < 15 → w.cell? ⟨K.ab, 0 + i.toNat * 15 + fo, none⟩ = some ((accL (X.ac i)).getD fo undef) := by
 obtain ⟨b, e1, h⟩ := hK.acc.openS hO k hk
 intro i i0 i1
 have e2 := e1 (by omega)
 cases e2
 exact h i i0 i1
theorem ndt {p : Prop} {d : Decidable p} (h : (!decide p) = true) : ¬ p := by simpa using h
theorem ndf {p : Prop} {d : Decidable p} (h : (!decide p) = false) : p := by simpa using h
theorem active_any (hb B : Nat) (X : HM) (K : HK) (i : Int) (N H : List (Option Blk)) (w0 w : World) (hO : Own B w0 w H) (k kb : Nat) (hk : H[k]? = some (houB hb (X.r K))) (hkb : H[kb]? = some K.blk) (hK : HOk X K N) (hG : HG X) :
  Calls Try.prog 61 #[ptr hb, iv i] w fun e w' => ∃ pv, e = .returned (.tuple #[pv, iv (X.act i)]) ∧ (X.act i = 0 → pv = .pointer (some ⟨K.ab, 0 + (i - 1).toNat * 15, none⟩) ∧ X.is i ∧ (X.acct i).out = false) ∧ w' = w := by
 have hmem := hG.mem
 refine calls_of_run (F := [(0, _), (1, _)]) Try.func61 rfl Try.ntmps61 rfl rfl <| run_seq <| run_region <| rl_v rfl rfl rfl (ov_assign rfl rfl) <| rl_v rfl rfl rfl (ov_assign rfl rfl) <| rl_nil <| run_seq <| run_seq <| run_region <| rl_v rfl rfl rfl (ov_move rfl rfl) <| rl_v rfl rfl rfl (ov_ptrnil rfl Try.underlying30 rfl) <| rl_nil <| run_cond_f rfl <| run_skip <| run_seq <| run_seq <| run_region <| rl_v rfl rfl rfl (ov_move rfl rfl) <| rl_v rfl rfl rfl (ov_move rfl rfl) ?_
 refine rl_call callable_110 rfl rfl rfl rfl rfl rfl (isMember_any hb B k (X.r K) i _ w0 w hO hk) (fun e1 w2 hp3 => ?_)
 obtain ⟨rfl, hw⟩ := hp3
 refine ⟨_, rfl, ?_⟩
 subst hw
 refine rl_v rfl rfl rfl (ov_not rfl rfl) <| rl_nil ?_
 first | refine run_cond_dec rfl (fun c => ?_) (fun c => ?_) | refine run_cond rfl (fun c => ?_) (fun c => ?_)
 ·have hi : ¬ X.is i := ndt c
  have ea : X.act i = 4 := if_neg hi
  refine run_seq <| run_region <| rl_v rfl rfl rfl (ov_assign rfl rfl) <| rl_v rfl rfl rfl (ov_assign rfl rfl) <| rl_nil <| run_ret Try.func61 (res2 Try.results61 rfl rfl) ?_
  exact ⟨_, by rw [ea], fun h => (by rw [ea] at h; cases h), rfl⟩
 ·have hi : X.is i := ndf c
  have hi2 : 1 ≤ i ∧ i ≤ X.mem := hi
  refine run_skip <| run_seq <| run_region <| rl_v rfl rfl rfl (ov_move rfl rfl) <| rl_v rfl rfl rfl (ov_nil rfl rfl) <| rl_v rfl rfl rfl (ov_fieldS rfl Try.underlying124 rfl (fo := 17) rfl (by kernel_rfl) rfl) ?_
  refine rl_v rfl rfl rfl (ov_load rfl Try.underlying120 rfl rfl (by exact hO.cellL k hk (off := 17) rfl)) ?_
  refine rl_v rfl rfl rfl (ov_move rfl rfl) <| rl_v rfl rfl rfl (ov_sub rfl rfl rfl (by omega)) ?_
  refine rl_v rfl rfl rfl (ov_index rfl Try.underlying120 (by kernel_rfl) (s := 15) rfl rfl ⟨by omega, show i - 1 < (X.mem : Int) by omega⟩ rfl) ?_
  refine rl_v rfl rfl rfl (ov_assign rfl rfl) <| rl_nil <| run_seq <| run_seq <| run_region <| rl_v rfl rfl rfl (ov_move rfl rfl) <| rl_v rfl rfl rfl (ov_nil rfl rfl) <| rl_v rfl rfl rfl (ov_fieldS rfl Try.underlying127 rfl (fo := 14) rfl (by kernel_rfl) rfl) ?_
  refine rl_v rfl rfl rfl (ov_load rfl Try.underlying4 rfl rfl (by exact (show _ = some (.bool (X.acct i).out) from hK.reads hO kb hkb (i - 1) (by omega) (by omega) 14 (by decide)))) ?_
  refine rl_nil ?_
  first | refine run_cond_dec rfl (fun o1 => ?_) (fun o1 => ?_) | refine run_cond rfl (fun o1 => ?_) (fun o1 => ?_)
  ·have ea : X.act i = 5 := (if_pos hi).trans (if_pos o1)
   refine run_seq <| run_region <| rl_v rfl rfl rfl (ov_assign rfl rfl) <| rl_v rfl rfl rfl (ov_assign rfl rfl) <| rl_nil <| run_ret Try.func61 (res2 Try.results61 rfl rfl) ?_
   exact ⟨_, by rw [ea], fun h => (by rw [ea] at h; cases h), rfl⟩
  ·have ea : X.act i = 0 := (if_pos hi).trans (if_neg (by rw [o1]; exact Bool.noConfusion))
   refine run_skip <| run_seq <| run_region <| rl_v rfl rfl rfl (ov_move rfl rfl) <| rl_v rfl rfl rfl (ov_assign rfl rfl) <| rl_v rfl rfl rfl (ov_assign rfl rfl) <| rl_nil <| run_ret Try.func61 (res2 Try.results61 rfl rfl) ?_
   exact ⟨_, by rw [ea], fun _ => ⟨rfl, hi, o1⟩, rfl⟩
end Go.Proofs.Ytfbbagnpdfafjaa
