import Derived.Test.YtlldeifbfpmbaaaGreatFoJ
set_option maxRecDepth 100000
namespace Go.Proofs.YtlldeifbfpmbaaaGreat
open Go.RowKit Go.Proofs Go.MapKept
abbrev allX (l by_ bo bt bs ob tb n bp : Nat) : List (Option Blk) :=
 [some (lch by_ 94 [.func (.yield l) #[] #[]]), some (lch bo 22 [.slice (some ⟨ob, 0, none⟩) n n]), some (lch bt 80 [ptr tb]), some (lch bs 36 [.func (.func 75) #[] #[ptr bp, ptr bo, ptr by_, ptr bt, ptr bs]])]
structure AllW (B : Nat) (w0 : World) (f : Fair) (ob tb : Nat) (ga ba qa : Option Addr) (gc bc qc : Nat) (l1 l2 : Int → Int) (rf : Int → Value) (No : Int → Nat) (Xo : Int → Int → Int) (TW : List (Option Blk)) : Prop where
 tab : ∀ ww : World, Own B w0 ww TW → PTX ww.heap.size ww tb f ga ba qa gc bc qc ∧ RTab ww.heap.size ww ba f.m f.bl f.be ∧ IAt ww.heap.size ww (some ⟨ob, 0, none⟩) f.n rf
 row : ∀ g : Int, 0 ≤ g → g < f.n → RdR TW (rf g) (No g) (Xo g) ∧ OptR f l1 l2 g (No g) (Xo g)
 opt : ∀ s, f.Stab s → ∀ g : Int, 0 ≤ g → g < f.n → Opt f l1 l2 g (s g)
theorem opt_next {f : Fair} {l1 l2 : Int → Int} {q : Int} {n : Nat} {X : Int → Int} (h : OptR f l1 l2 q n X) {s : Int → Int} (ho : Opt f l1 l2 q (s q)) {j : Nat} (hj : j < n) {c : Nat} (hc : j = 0 ∧ c = 0 ∨ 0 < j ∧ (c : Int) = X ((j : Int) - 1) + 2) (h1 : (c : Int) ≤ s q + 1) : ¬ s q + 1 < X j + 1 := fun hlt => by
 obtain ⟨i, ⟨i0, i1⟩, e⟩ := (h.mem (s q)).2 ho
 rcases Int.lt_or_le i j with hij | hij
 ·rcases hc with ⟨h2, _⟩ | ⟨h2, h3⟩
  ·omega
  ·by_cases e2 : i = (j : Int) - 1
   ·rw [e2] at e; omega
   ·have := h.inc i ((j : Int) - 1) i0 (by omega) (by omega); omega
 ·by_cases e2 : i = j
  ·rw [e2] at e; omega
  ·have := h.inc j i (by omega) (by omega) i1; omega
theorem opt_last {f : Fair} {l1 l2 : Int → Int} {q : Int} {n : Nat} {X : Int → Int} (h : OptR f l1 l2 q n X) {s : Int → Int} (ho : Opt f l1 l2 q (s q)) {c : Nat} (hc : n = 0 ∧ c = 0 ∨ 0 < n ∧ (c : Int) = X ((n : Int) - 1) + 2) (h1 : (c : Int) ≤ s q + 1) : False := by
 obtain ⟨i, ⟨i0, i1⟩, e⟩ := (h.mem (s q)).2 ho
 rcases hc with ⟨h2, _⟩ | ⟨h2, h3⟩
 ·omega
 ·by_cases e2 : i = (n : Int) - 1
  ·rw [e2] at e; omega
  ·have := h.inc i ((n : Int) - 1) i0 (by omega) (by omega); omega
section
variable {B : Nat} {w0 : World} {f : Fair} {ob tb : Nat} {ga ba qa : Option Addr} {gc bc qc : Nat} {l1 l2 : Int → Int} {rf : Int → Value} {No : Int → Nat} {Xo : Int → Int → Int} {TW : List (Option Blk)} {K : Kp} {most l by_ bo bt bs bp : Nat}
set_option maxHeartbeats 4000000 in
theorem all11_any (hW : AllW B w0 f ob tb ga ba qa gc bc qc l1 l2 rf No Xo TW) (hV : Valid5 f f.m) (hY : YieldOk l B w0 f.n most K) : ∀ (u q : Nat) (L : Int → Int) (N : Nat) (A : Nat → Int → Int) (KL : List (Option Blk)) (pa : Option Addr) (pc : Nat) (cp : Option Blk) (w : World), u = f.n - q → q ≤ f.n → Dig f.m q L → (∃ s, f.Stab s ∧ ∀ i : Int, 0 ≤ i → i < q → s i = L i) → K N A KL → N < most → f.AllTo N A (val f.m L q * (f.m + 1) ^ (f.n - q)) → IRow (.slice pa q pc) 3 q (fun i => iv (L i)) cp →
   Own B w0 w (some (lch bp 23 [.slice pa q pc]) :: cp :: (allX l by_ bo bt bs ob tb f.n bp ++ (KL ++ TW))) →
   Calls Tryz.prog 75 #[ptr bp, ptr bo, ptr by_, ptr bt, ptr bs] w fun e w' => ∃ (b : Bool) (KL' : List (Option Blk)) (pv : Value) (cp' : Option Blk), e = .returned (.bool b) ∧ Found5 f K most ((val f.m L q + 1) * (f.m + 1) ^ (f.n - q)) b KL' ∧ (b = true → ∃ (pa' : Option Addr) (pc' : Nat), pv = .slice pa' q pc' ∧ IRow (.slice pa' q pc') 3 q (fun i => iv (L i)) cp') ∧ Own B w0 w' (some (lch bp 23 [pv]) :: cp' :: (allX l by_ bo bt bs ob tb f.n bp ++ (KL' ++ TW))) := by
 intro u
 induction u using Nat.strongRecOn with
 | ind u ih =>
  intro q L N A KL pa pc cp w hu hqn hdig hex hK hN hA hr hO
  have hn := hV.sm.n
  refine calls_of_run (F := [(0, _), (1, _), (2, _), (3, _), (4, _)]) Tryz.func75 rfl Tryz.ntmps75 rfl rfl <| run_seq <| run_region <| rl_v rfl rfl rfl (ov_assign rfl rfl) <| rl_nil <| run_scope <| run_seq <| run_seq <| run_region <| rl_v rfl rfl rfl (ov_load rfl Tryz.underlying23 rfl rfl (by exact hO.cellL 0 rfl (off := 0) rfl)) ?_
  refine rl_v rfl rfl rfl (ov_len rfl Tryz.underlying23 rfl) <| rl_v rfl rfl rfl (ov_load rfl Tryz.underlying22 rfl rfl (by exact hO.cellL 3 rfl (off := 0) rfl)) ?_
  refine rl_v rfl rfl rfl (ov_len rfl Tryz.underlying22 rfl) <| rl_v rfl rfl rfl (ov_eql rfl rfl rfl) <| rl_nil ?_
  first | refine run_cond_dec rfl (fun c1 => ?_) (fun c1 => ?_) | refine run_cond rfl (fun c1 => ?_) (fun c1 => ?_)
  ·have hqf : q = f.n := by omega
   refine run_seq <| Run.keep [0, 2] (F' := [(0, _), (2, _)]) rfl <| run_join1 (fun (v : Bool) => [(5, .bool v)]) [] (fun (v : Bool) (w1 : World) => ∃ KL' : List (Option Blk), Found5 f K most ((val f.m L q + 1) * (f.m + 1) ^ (f.n - q)) v KL' ∧ Own B w0 w1 (some (lch bp 23 [.slice pa q pc]) :: cp :: (allX l by_ bo bt bs ob tb f.n bp ++ (KL' ++ TW)))) (fun hk2 => ?_) ?_
   ·have hOd := hO.drew
    have hcl := fun (wx : World) (hx : Own B w0 wx (some (lch bp 23 [.slice pa q pc]) :: cp :: (allX l by_ bo bt bs ob tb f.n bp ++ (KL ++ TW)))) => clone5_any pa q pc L wx (by omega) (hr.reads hx 1 rfl)
    have hyy : ∀ (wx : World) (v2 : Value) (c2 : Option Blk), IRow v2 3 q (fun i => iv (L i)) c2 → Own B w0 wx (c2 :: (some (lch bp 23 [.slice pa q pc]) :: cp :: (allX l by_ bo bt bs ob tb f.n bp ++ (KL ++ TW)))) → YieldAt (FW none) 0 Tryz.prog l #[v2] wx fun e w' => ∃ v, e = .returned v ∧ ∃ b : Bool, v = .bool b ∧ ∃ KL' : List (Option Blk), Found5 f K most ((val f.m L q + 1) * (f.m + 1) ^ (f.n - q)) b KL' ∧ Own B w0 w' (some (lch bp 23 [.slice pa q pc]) :: cp :: (allX l by_ bo bt bs ob tb f.n bp ++ (KL' ++ TW))) := fun wx v2 c2 hr2 hOx => by
     obtain ⟨s, hs, hsl⟩ := hex
     have e1 : (f.m + 1) ^ (f.n - q) = 1 := by rw [hqf, Nat.sub_self, Nat.pow_zero]
     have hst : f.Stab L := hs.congr fun g g0 g1 => hsl g g0 (by omega)
     have hA2 := hA
     rw [e1, Nat.mul_one, hqf] at hA2
     obtain ⟨fn, tmps, asg, bdy, hy1, hy2⟩ := (hY N A KL (some (lch bp 23 [.slice pa q pc]) :: cp :: (allX l by_ bo bt bs ob tb f.n bp ++ TW)) wx v2 L c2 hK hN (by rw [← hqf]; exact hr2) (hOx.perm ((List.perm_append_comm_assoc (some (lch bp 23 [.slice pa q pc]) :: cp :: allX l by_ bo bt bs ob tb f.n bp) KL TW).cons _)))
     refine ⟨fn, tmps, asg, bdy, hy1, RoundIn.mono hy2 fun e w' he => ?_⟩
     obtain ⟨v, he, A', KL', hv, hK', hA1, hA3, hO'⟩ := he
     have hAll : f.AllTo (N + 1) A' ((val f.m L q + 1) * (f.m + 1) ^ (f.n - q)) := by
      rw [e1, Nat.mul_one, hqf]
      exact hA2.take hst hA1 hA3
     refine ⟨v, he, _, hv, KL', ⟨N + 1, A', hK', fun hb => ⟨by have := of_decide_eq_true hb; omega, hAll⟩, fun hb => ⟨by have := of_decide_eq_false hb; omega, _, Nat.le_refl _, hAll⟩⟩, hO'.perm (List.perm_append_comm_assoc KL' (some (lch bp 23 [.slice pa q pc]) :: cp :: allX l by_ bo bt bs ob tb f.n bp) TW)⟩
    refine run_ci (n := 0) (ay_start (by kernel_rfl) ?_)
    refine ay_2 (i := 0) (j := 1) (by kernel_rfl) (ayo_v rfl rfl (fun _ h => by cases h) rfl rfl (ov_load rfl Tryz.underlying94 rfl rfl (hOd.cellL 2 rfl (off := 0) rfl)) (ay_1 (i := 1) (by kernel_rfl) (ayo_v rfl rfl (fun _ h => by cases h) rfl rfl (ov_load rfl Tryz.underlying23 rfl rfl (hOd.cellL 0 rfl (off := 0) rfl)) (ay_1 (i := 2) (by kernel_rfl) (ayo_ow rfl rfl (fun _ h => by cases h) (ow_call2 callable_76 rfl rfl rfl rfl rfl (hcl _ hOd) fun e w' ⟨v, c', h, _⟩ => ⟨v, h⟩) fun F' w' hp => ?_))))) (ayo_v rfl rfl (fun _ h => by cases h) rfl rfl (ov_load rfl Tryz.underlying23 rfl rfl (hOd.cellL 0 rfl (off := 0) rfl)) (ay_2 (i := 0) (j := 2) (by kernel_rfl) (ayo_v rfl rfl (fun _ h => by cases h) rfl rfl (ov_load rfl Tryz.underlying94 rfl rfl (hOd.cellL 2 rfl (off := 0) rfl)) (ay_1 (i := 2) (by kernel_rfl) (ayo_ow rfl rfl (fun _ h => by cases h) (ow_call2 callable_76 rfl rfl rfl rfl rfl (hcl _ hOd) fun e w' ⟨v, c', h, _⟩ => ⟨v, h⟩) fun F' w' hp => ?_))) (ayo_ow rfl rfl (fun _ h => by cases h) (ow_call2 callable_76 rfl rfl rfl rfl rfl (hcl _ hOd) fun e w' ⟨v, c', h, _⟩ => ⟨v, h⟩) fun F' w' hp => ?_)))
    ·obtain ⟨e, v, he, rfl, v2, c2, he2, hr2, hOc⟩ := hp
     rw [he] at he2
     cases he2
     have hO5 := hOd.join hOc
     refine ay_1 (i := 3) (by kernel_rfl) (ayo rfl rfl fun a ha => wpIn_yield rfl rfl rfl rfl rfl (hyy _ _ _ hr2 hO5) ha fun vv a' w'' hp2 ha' => ?_)
     obtain ⟨b, rfl, KL', hFd, hO6⟩ := hp2
     exact (ay_1 (i := 4) (by kernel_rfl) (ayo_v rfl rfl (fun _ h => by cases h) rfl rfl (ov_assign rfl rfl) (ay_done (by kernel_rfl) (qk_run (Run.use (hk2 b _ ⟨KL', hFd, hO6⟩) (And.intro rfl trivial)))))) a' ha'
    ·obtain ⟨e, v, he, rfl, v2, c2, he2, hr2, hOc⟩ := hp
     rw [he] at he2
     cases he2
     have hO5 := hOd.join hOc
     refine ay_1 (i := 3) (by kernel_rfl) (ayo rfl rfl fun a ha => wpIn_yield rfl rfl rfl rfl rfl (hyy _ _ _ hr2 hO5) ha fun vv a' w'' hp2 ha' => ?_)
     obtain ⟨b, rfl, KL', hFd, hO6⟩ := hp2
     exact (ay_1 (i := 4) (by kernel_rfl) (ayo_v rfl rfl (fun _ h => by cases h) rfl rfl (ov_assign rfl rfl) (ay_done (by kernel_rfl) (qk_run (Run.use (hk2 b _ ⟨KL', hFd, hO6⟩) (And.intro rfl trivial)))))) a' ha'
    ·obtain ⟨e, v, he, rfl, v2, c2, he2, hr2, hOc⟩ := hp
     rw [he] at he2
     cases he2
     have hO5 := hOd.join hOc
     refine ay_1 (i := 0) (by kernel_rfl) (ayo_v rfl rfl (fun _ h => by cases h) rfl rfl (ov_load rfl Tryz.underlying94 rfl rfl (hO5.cellL 3 rfl (off := 0) rfl)) ?_)
     refine ay_1 (i := 3) (by kernel_rfl) (ayo rfl rfl fun a ha => wpIn_yield rfl rfl rfl rfl rfl (hyy _ _ _ hr2 hO5) ha fun vv a' w'' hp2 ha' => ?_)
     obtain ⟨b, rfl, KL', hFd, hO6⟩ := hp2
     exact (ay_1 (i := 4) (by kernel_rfl) (ayo_v rfl rfl (fun _ h => by cases h) rfl rfl (ov_assign rfl rfl) (ay_done (by kernel_rfl) (qk_run (Run.use (hk2 b _ ⟨KL', hFd, hO6⟩) (And.intro rfl trivial)))))) a' ha'
   ·intro v w1 hJw1
    obtain ⟨KL', hFd, hOj⟩ := hJw1
    show Run _ _ _ _ [(5, _)] _ _
    refine run_ret Tryz.func75 (res1 Tryz.results75 rfl) ?_
    exact ⟨v, KL', _, cp, rfl, hFd, fun _ => ⟨pa, pc, rfl, hr⟩, hOj⟩
  ·have hq1 : q < f.n := by omega
   obtain ⟨⟨ra, rc, hrv, hrcap, hrd⟩, hopt⟩ := hW.row q (by omega) (by omega)
   have hTW : ∀ {ww : World} {x y : Option Blk} {KL : List (Option Blk)}, Own B w0 ww (x :: y :: (allX l by_ bo bt bs ob tb f.n bp ++ (KL ++ TW))) → Own B w0 ww TW := fun h => h.tail.tail.sub ((List.sublist_append_right _ TW).trans (List.sublist_append_right _ _))
   have hm64 := hV.sm.m
   have hNo : No q ≤ f.m + 1 := pigeon (n := No q) (m := f.m + 1) (e := fun i => Xo q i + 1) (fun i i0 i1 => by
    show 0 ≤ Xo q i + 1 ∧ Xo q i + 1 < ((f.m + 1 : Nat) : Int)
    rcases (hopt.mem (Xo q i)).1 ⟨i, ⟨i0, i1⟩, rfl⟩ with ⟨_, e⟩ | ⟨_, h, _⟩ <;> omega) fun a b a0 a1 b0 b1 e => by
    change Xo q a + 1 = Xo q b + 1 at e
    rcases Int.lt_trichotomy a b with h | h | h
    ·have := hopt.inc a b a0 h b1; omega
    ·exact h
    ·have := hopt.inc b a b0 h a1; omega
   have hA0 := hA
   rw [Fair.at_first hq1] at hA0
   refine run_skip <| run_seq <| run_label <| run_seq <| run_seq <| run_region <| rl_v rfl rfl rfl (ov_load rfl Tryz.underlying22 rfl rfl (by exact hO.cellL 3 rfl (off := 0) rfl)) ?_
   refine rl_v rfl rfl rfl (ov_load rfl Tryz.underlying23 rfl rfl (by exact hO.cellL 0 rfl (off := 0) rfl)) ?_
   refine rl_v rfl rfl rfl (ov_len rfl Tryz.underlying23 rfl) <| rl_v rfl rfl rfl (ov_index1 rfl Tryz.underlying22 (by kernel_rfl) rfl rfl ⟨by omega, by omega⟩ rfl) ?_
   refine rl_v rfl rfl rfl (ov_load rfl Tryz.underlying23 rfl rfl (by exact ((hW.tab _ (hTW hO)).2.2.cellA (i := q) (by omega) (by omega)).trans (congrArg some hrv))) ?_
   refine rl_v rfl rfl rfl (ov_len rfl Tryz.underlying23 rfl) <| rl_v rfl rfl rfl (ov_move rfl rfl) <| rl_nil <| run_block <| Run.keep [0, 3, 4, 21, 22, 23] (F' := [(0, _), (3, _), (4, _), (21, _), (22, _), (23, _)]) rfl <| run_loop1 (fun (j : Nat) => [(23, .int .i64 (j : Int))]) [0, 3, 4, 21, 22] (fun (j : Nat) (w3 : World) => j ≤ No q ∧ ∃ (N : Nat) (A : Nat → Int → Int) (KL : List (Option Blk)) (pa : Option Addr) (pc : Nat) (cp : Option Blk) (c : Nat), K N A KL ∧ N < most ∧ f.AllTo N A ((val f.m L q * (f.m + 1) + c) * (f.m + 1) ^ (f.n - q - 1)) ∧ c ≤ f.m + 1 ∧ (j = 0 ∧ c = 0 ∨ 0 < j ∧ (c : Int) = Xo q ((j : Int) - 1) + 2) ∧ IRow (.slice pa q pc) 3 q (fun i => iv (L i)) cp ∧ Own B w0 w3 (some (lch bp 23 [.slice pa q pc]) :: cp :: (allX l by_ bo bt bs ob tb f.n bp ++ (KL ++ TW)))) (fun (j : Nat) => No q - j) (0) ?_ (And.intro (by exact slot_int rfl (by first | omega)) (And.intro rfl (And.intro rfl (And.intro rfl (And.intro rfl (And.intro rfl trivial)))))) ?_
   ·exact ⟨Nat.zero_le _, N, A, KL, pa, pc, cp, 0, hK, hN, hA0, Nat.zero_le _, .inl ⟨rfl, rfl⟩, hr, hO⟩
   intro j w3 hIw3 ih4
   obtain ⟨hj, N, A, KL, pa, pc, cp, c, hK, hN, hA, hcm, hc, hr, hO⟩ := hIw3
   show Run _ _ _ _ [(23, _), (0, _), (3, _), (4, _), (21, _), (22, _)] _ _
   refine run_seq <| run_region <| rl_v rfl rfl rfl (ov_lss rfl rfl rfl) <| rl_nil <| run_seq ?_
   first | refine run_cond_dec rfl (fun c2 => ?_) (fun c2 => ?_) | refine run_cond rfl (fun c2 => ?_) (fun c2 => ?_)
   ·obtain ⟨rbk, ro, hra, hread⟩ := (hrd _ _ _ (hTW hO)).open
    obtain ⟨b, hb⟩ : ∃ b, b = Xo q j := ⟨_, rfl⟩
    have hbo := (hopt.mem b).1 ⟨j, ⟨by omega, by omega⟩, hb.symm⟩
    have hbr : -1 ≤ b ∧ b < f.m := by rcases hbo with ⟨_, e⟩ | ⟨_, h, _⟩ <;> omega
    have hcb : (c : Int) ≤ b + 1 := by
     rcases hc with ⟨_, h⟩ | ⟨h1, h2⟩
     ·omega
     ·have := hopt.inc ((j : Int) - 1) j (by omega) (by omega) (by omega); omega
    obtain ⟨d, hd⟩ : ∃ d : Nat, (d : Int) = b + 1 := ⟨(b + 1).toNat, by omega⟩
    have hAd := hA.digit (c' := d) hq1 hdig (by omega) (by omega) fun s hs hsl h1 => by rw [hd, hb]; exact opt_next hopt (hW.opt s hs q (by omega) (by omega)) (by omega) hc h1
    have hvl : val f.m (upd L q b) (q + 1) = val f.m L q * (f.m + 1) + d := by rw [Fair.val_longer, show (b + 1).toNat = d by omega]
    have hdig2 : Dig f.m (q + 1) (upd L q b) := fun i i0 i1 => by
     by_cases e : i = q
     ·rw [e, upd_same]; exact hbr
     ·rw [upd_ne _ _ e]; exact hdig i i0 (by omega)
    refine run_skip <| run_seq <| run_block <| run_seq <| run_region <| rl_v rfl rfl rfl (ov_index1 rfl Tryz.underlying23 (by kernel_rfl) rfl rfl ⟨by omega, by omega⟩ (by exact hra (by omega))) ?_
    refine rl_v rfl rfl rfl (ov_load rfl Tryz.underlying3 rfl rfl (by exact (hread _ (Below.refl _ _) j (by omega) (by omega)).trans (congrArg some (congrArg iv hb.symm)))) ?_
    refine rl_v rfl rfl rfl (ov_assign rfl rfl) <| rl_nil <| run_seq <| run_region <| rl_v rfl rfl rfl (ov_load rfl Tryz.underlying23 rfl rfl (by exact hO.cellL 0 rfl (off := 0) rfl)) ?_
    refine rl_v rfl rfl rfl (ov_move rfl rfl) ?_
    refine rl_appI rfl rfl rfl rfl rfl rfl rfl rfl Tryz.underlying23 info_3 rfl hO 1 hr rfl rfl rfl ⟨by omega, by omega⟩ (fun v5 c5 w5 hO6 hr5 hs7 => ?_)
    obtain ⟨pa5, pc5, rfl⟩ := Row.val hr5
    have hr6 : IRow (.slice pa5 (q + 1) pc5) 3 (q + 1) (fun i => iv (upd L q b i)) c5 := hr5.congr fun i _ _ => by unfold upd; split <;> rfl
    refine rl_ow rfl (ow_storeL rfl rfl (by kernel_rfl) hO6 0 rfl rfl rfl rfl rfl) ?_
    rintro _ w8 ⟨rfl, hO9, hs10⟩
    have hpk := hW.tab _ (hTW hO9)
    refine rl_nil <| run_seq <| run_block <| run_seq <| run_region <| rl_v rfl rfl rfl (ov_load rfl Tryz.underlying80 rfl rfl (by exact hO9.cellL 4 rfl (off := 0) rfl)) ?_
    refine rl_v rfl rfl rfl (ov_load rfl Tryz.underlying23 rfl rfl (by exact hO9.cellL 0 rfl (off := 0) rfl)) ?_
    refine rl_call callable_77 rfl rfl rfl rfl rfl rfl (can_any ga ba qa gc bc qc tb f pa5 (q + 1) pc5 (upd L q b) _ hV hpk.1 hpk.2.1 (by omega) (hr6.reads hO9 1 rfl) hdig2) (fun e11 w12 hp13 => ?_)
    obtain ⟨rfl, hbl⟩ := hp13
    refine ⟨_, rfl, ?_⟩
    have hO14 := hO9.past hbl
    have hpre : ∀ s : Int → Int, (∀ i : Int, 0 ≤ i → i < ((q + 1 : Nat) : Int) → s i = upd L q b i) ↔ (∀ i : Int, 0 ≤ i → i < q → s i = L i) ∧ s q = b := fun s => by
     constructor
     ·intro h
      exact ⟨fun i i0 i1 => by rw [h i i0 (by omega), upd_ne _ _ (by omega)], by rw [h q (by omega) (by omega), upd_same]⟩
     ·rintro ⟨h1, h2⟩ i i0 i1
      by_cases e : i = q
      ·rw [e, upd_same]; exact h2
      ·rw [upd_ne _ _ e]; exact h1 i i0 (by omega)
    refine rl_v rfl rfl rfl (ov_not rfl rfl) <| rl_v rfl rfl rfl (ov_assign rfl rfl) <| rl_nil ?_
    first | refine run_cond_dec rfl (fun c3 => ?_) (fun c3 => ?_) | refine run_cond rfl (fun c3 => ?_) (fun c3 => ?_)
    ·have hno : ¬ ∃ s, f.Stab s ∧ ∀ i : Int, 0 ≤ i → i < ((q + 1 : Nat) : Int) → s i = upd L q b i := fun h => by have := dB_iff.2 h; rw [this] at c3; exact Bool.noConfusion c3
     have hA2 := hAd.digit (c' := d + 1) hq1 hdig (by omega) (by omega) fun s hs hsl h1 h2 => hno ⟨s, hs, (hpre s).2 ⟨hsl, by omega⟩⟩
     have hcp6 := hr6.capF
     have hr7 : IRow (.slice pa5 q pc5) 3 q (fun i => iv (L i)) c5 := hr6.pop.congr fun i i0 i1 => congrArg iv (upd_ne _ _ (by omega))
     refine run_seq <| run_region <| rl_v rfl rfl rfl (ov_load rfl Tryz.underlying23 rfl rfl (by exact hO14.cellL 0 rfl (off := 0) rfl)) ?_
     refine rl_v rfl rfl rfl (ov_load rfl Tryz.underlying23 rfl rfl (by exact hO14.cellL 0 rfl (off := 0) rfl)) ?_
     refine rl_v rfl rfl rfl (ov_len rfl Tryz.underlying23 rfl) <| rl_v rfl rfl rfl (ov_sub rfl rfl rfl (by omega)) ?_
     refine rl_v rfl rfl rfl (ov_sliceH (q) (s := 1) rfl Tryz.underlying23 (by kernel_rfl) rfl rfl (by omega) (by omega)) ?_
     refine rl_ow rfl (ow_storeL rfl rfl (by kernel_rfl) hO14 0 rfl rfl rfl rfl rfl) ?_
     rintro _ w15 ⟨rfl, hO16, hs17⟩
     refine rl_nil <| run_exit rfl <| run_region <| rl_v rfl rfl rfl (ov_add rfl rfl rfl (by omega)) ?_
     refine rl_v rfl rfl rfl (ov_move rfl rfl) <| rl_nil ?_
     refine Run.use (ih4 (j + 1) _ ?_ ?_) (And.intro (by exact slot_int rfl (by first | omega)) (And.intro rfl (And.intro rfl (And.intro rfl (And.intro rfl (And.intro rfl trivial))))))
     ·first | omega | (dsimp only; omega)
     ·exact ⟨by omega, N, A, KL, pa5, pc5, c5, d + 1, hK, hN, hA2, by omega, .inr ⟨by omega, by rw [show (((j + 1 : Nat) : Int) - 1) = (j : Int) by omega, ← hb]; omega⟩, hr7, hO16⟩
    ·have hex2 : ∃ s, f.Stab s ∧ ∀ i : Int, 0 ≤ i → i < ((q + 1 : Nat) : Int) → s i = upd L q b i := dB_iff.1 (by revert c3; cases dB (∃ s, f.Stab s ∧ ∀ i : Int, 0 ≤ i → i < ((q + 1 : Nat) : Int) → s i = upd L q b i) <;> simp)
     have hAl : f.AllTo N A (val f.m (upd L q b) (q + 1) * (f.m + 1) ^ (f.n - (q + 1))) := by rw [hvl]; exact hAd
     refine run_seq <| run_region <| rl_v rfl rfl rfl (ov_load rfl Tryz.underlying36 rfl rfl (by exact hO14.cellL 5 rfl (off := 0) rfl)) ?_
     refine rl_call callable_75 rfl rfl rfl rfl rfl rfl (ih (f.n - (q + 1)) (by omega) (q + 1) (upd L q b) N A KL pa5 pc5 c5 _ rfl (by omega) hdig2 hex2 hK hN hAl hr6 hO14) (fun e18 w19 hp20 => ?_)
     obtain ⟨ok, KL2, pv, cp2, rfl, hFd, hpv, hO2⟩ := hp20
     refine ⟨_, rfl, ?_⟩
     have hlast : (val f.m (upd L q b) (q + 1) + 1) * (f.m + 1) ^ (f.n - (q + 1)) = (val f.m L q * (f.m + 1) + (d + 1)) * (f.m + 1) ^ (f.n - q - 1) := by rw [hvl]; rfl
     refine rl_v rfl rfl rfl (ov_not rfl rfl) <| rl_v rfl rfl rfl (ov_assign rfl rfl) <| rl_nil ?_
     first | refine run_cond_dec rfl (fun c4 => ?_) (fun c4 => ?_) | refine run_cond rfl (fun c4 => ?_) (fun c4 => ?_)
     ·have hokf : ok = false := by revert c4; cases ok <;> simp
      rw [hokf] at hFd
      refine run_seq <| run_region <| rl_v rfl rfl rfl (ov_assign rfl rfl) <| rl_nil <| run_ret Tryz.func75 (res1 Tryz.results75 rfl) ?_
      exact ⟨false, KL2, pv, cp2, rfl, hFd.more (by rw [hlast, Fair.at_last hq1]; exact Nat.mul_le_mul_right _ (by omega)), fun h => Bool.noConfusion h, hO2⟩
     ·have hokt : ok = true := by revert c4; cases ok <;> simp
      obtain ⟨N2, A2, hK2, hF2, _⟩ := hFd
      obtain ⟨hN2, hA2⟩ := hF2 hokt
      rw [hlast] at hA2
      obtain ⟨pa7, pc7, rfl, hr8⟩ := hpv hokt
      have hcp8 := hr8.capF
      have hr9 : IRow (.slice pa7 q pc7) 3 q (fun i => iv (L i)) cp2 := hr8.pop.congr fun i i0 i1 => congrArg iv (upd_ne _ _ (by omega))
      refine run_skip <| run_inBlock <| run_region <| rl_v rfl rfl rfl (ov_load rfl Tryz.underlying23 rfl rfl (by exact hO2.cellL 0 rfl (off := 0) rfl)) ?_
      refine rl_v rfl rfl rfl (ov_load rfl Tryz.underlying23 rfl rfl (by exact hO2.cellL 0 rfl (off := 0) rfl)) ?_
      refine rl_v rfl rfl rfl (ov_len rfl Tryz.underlying23 rfl) <| rl_v rfl rfl rfl (ov_sub rfl rfl rfl (by omega)) ?_
      refine rl_v rfl rfl rfl (ov_sliceH (q) (s := 1) rfl Tryz.underlying23 (by kernel_rfl) rfl rfl (by omega) (by omega)) ?_
      refine rl_ow rfl (ow_storeL rfl rfl (by kernel_rfl) hO2 0 rfl rfl rfl rfl rfl) ?_
      rintro _ w21 ⟨rfl, hO22, hs23⟩
      refine rl_nil <| run_inBlock <| run_region <| rl_v rfl rfl rfl (ov_add rfl rfl rfl (by omega)) ?_
      refine rl_v rfl rfl rfl (ov_move rfl rfl) <| rl_nil ?_
      refine Run.use (ih4 (j + 1) _ ?_ ?_) (And.intro (by exact slot_int rfl (by first | omega)) (And.intro rfl (And.intro rfl (And.intro rfl (And.intro rfl (And.intro rfl trivial))))))
      ·first | omega | (dsimp only; omega)
      ·exact ⟨by omega, N2, A2, KL2, pa7, pc7, cp2, d + 1, hK2, hN2, hA2, by omega, .inr ⟨by omega, by rw [show (((j + 1 : Nat) : Int) - 1) = (j : Int) by omega, ← hb]; omega⟩, hr9, hO22⟩
   ·have hjn : j = No q := by omega
    have hAll : f.AllTo N A ((val f.m L q + 1) * (f.m + 1) ^ (f.n - q)) := by
     rw [Fair.at_last hq1]
     exact hA.digit hq1 hdig hcm (Nat.le_refl _) fun s hs hsl h1 _ => opt_last hopt (hW.opt s hs q (by omega) (by omega)) (by rw [← hjn]; exact hc) h1
    refine run_exit rfl <| run_seq <| run_region <| rl_v rfl rfl rfl (ov_assign rfl rfl) <| rl_nil <| run_ret Tryz.func75 (res1 Tryz.results75 rfl) ?_
    exact ⟨true, KL, _, cp, rfl, ⟨N, A, hK, fun _ => ⟨hN, hAll⟩, fun h => Bool.noConfusion h⟩, fun _ => ⟨pa, pc, rfl, hr⟩, hO⟩
end
end Go.Proofs.YtlldeifbfpmbaaaGreat
set_option maxRecDepth 100000
namespace Go.Proofs.YtlldeifbfpmbaaaGreat
open Go.RowKit Go.Proofs Go.MapKept
theorem p5y {α : Type} {x a b c d : α} {R : List α} : (x :: a :: b :: c :: d :: R).Perm (a :: b :: c :: d :: x :: R) := (List.perm_middle (l₁ := [a, b, c, d])).symm
section
variable {B : Nat} {w0 : World} {f : Fair} {ob tb : Nat} {ga ba qa : Option Addr} {gc bc qc : Nat} {l1 l2 : Int → Int} {rf : Int → Value} {No : Int → Nat} {Xo : Int → Int → Int} {TW : List (Option Blk)} {K : Kp} {most l bo bt : Nat}
set_option maxHeartbeats 1600000 in
theorem all1_any (hW : AllW B w0 f ob tb ga ba qa gc bc qc l1 l2 rf No Xo TW) (hV : Valid5 f f.m) (hY : YieldOk l B w0 f.n most K) (hm : 0 < most) (A : Nat → Int → Int) (KL : List (Option Blk)) (w : World) (hK : K 0 A KL)
  (hO : Own B w0 w (some (lch bo 22 [.slice (some ⟨ob, 0, none⟩) f.n f.n]) :: some (lch bt 80 [ptr tb]) :: (KL ++ TW))) :
  Calls Tryz.prog 74 #[.func (.yield l) #[] #[], ptr bo, ptr bt] w fun e w' => e = .returned (.tuple #[]) ∧ ∃ (b : Bool) (KL' : List (Option Blk)), Found5 f K most ((0 + 1) * (f.m + 1) ^ f.n) b KL' ∧ Own B w0 w' (some (lch bo 22 [.slice (some ⟨ob, 0, none⟩) f.n f.n]) :: some (lch bt 80 [ptr tb]) :: (KL' ++ TW)) := by
 obtain ⟨s0, hs0⟩ := Fair.Best.exists hV.ok
 refine calls_of_run (F := [(0, _), (1, _), (2, _)]) Tryz.func74 rfl Tryz.ntmps74 rfl rfl <| run_seq <| run_region <| rl_ow rfl (ow_box _ rfl rfl rfl rfl rfl hO) ?_
 rintro _ w1 ⟨by_, rfl, hO2, hs3⟩
 refine rl_nil <| run_seq <| run_region <| rl_ow rfl (ow_alloc _ rfl rfl rfl zero_23 rfl hO2) ?_
 rintro _ w4 ⟨bp, rfl, hO5, hs6⟩
 refine rl_nil <| run_seq <| run_region <| rl_ow rfl (ow_alloc _ rfl rfl rfl zero_36 rfl hO5) ?_
 rintro _ w7 ⟨bs, rfl, hO8, hs9⟩
 refine rl_nil <| run_seq <| run_region <| rl_v rfl rfl rfl (ov_func rfl rfl rfl) <| rl_ow rfl (ow_storeL rfl rfl (by kernel_rfl) hO8 0 rfl rfl rfl rfl rfl) ?_
 rintro _ w10 ⟨rfl, hO11, hs12⟩
 have hOn := hO11.nil_cons
 have hO2 : Own B w0 w10 (some (lch bp 23 [.slice none 0 0]) :: none :: (allX l by_ bo bt bs ob tb f.n bp ++ (KL ++ TW))) := (hOn.perm (p5y.cons none)).swap
 refine rl_nil <| run_region <| rl_v rfl rfl rfl (ov_load rfl Tryz.underlying36 rfl rfl (by exact hO2.cellL 5 rfl (off := 0) rfl)) ?_
 refine rl_call callable_75 rfl rfl rfl rfl rfl rfl (all11_any hW hV hY (f.n - 0) 0 (fun _ => -1) 0 A KL none 0 none _ rfl (Nat.zero_le _) (fun i i0 i1 => by omega) ⟨s0, hs0.stab, fun i i0 i1 => by omega⟩ hK hm (by show f.AllTo 0 A (0 * _); rw [Nat.zero_mul]; exact Fair.AllTo.init f A) (IRow.nil _ _) hO2) (fun e13 w14 hp15 => ?_)
 obtain ⟨b, KL', pv, cp', rfl, hFd, _, hO3⟩ := hp15
 refine ⟨_, rfl, ?_⟩
 refine rl_nil <| run_end Tryz.func74 (res0 Tryz.results74) ?_
 exact ⟨rfl, b, KL', hFd, hO3.sub (.cons _ (.cons _ (.cons _ (.cons_cons _ (.cons_cons _ (.cons _ (.refl _)))))))⟩
end
end Go.Proofs.YtlldeifbfpmbaaaGreat
set_option maxRecDepth 100000
namespace Go.Proofs.YtlldeifbfpmbaaaGreat
open Go.RowKit Go.Proofs Go.MapKept
theorem all5_any (tb : Nat) (f : Fair) (w : World) (hV : Valid5 f f.m) (hm12 : f.m ≤ 12) (h : PT w.heap.size w tb f) :
  Calls Tryz.prog 41 #[ptr tb] w fun e w' => ∃ (bo bt ob : Nat) (rf : Int → Value) (N : Int → Nat) (X : Int → Int → Int) (T : List (Option Blk)) (l1 l2 nb : Int → Int), e = .returned (.func (.func 74) #[] #[ptr bo, ptr bt]) ∧ Own w.heap.size w w' (some (lch bo 22 [.slice (some ⟨ob, 0, none⟩) f.n f.n]) :: some (lch bt 80 [ptr tb]) :: some (vch ob 23 f.n rf) :: T) ∧ f.Best l1 ∧ f.AS l2 nb ∧ (∀ b : Int, 0 ≤ b → b < f.m → Done f l2 nb b) ∧ ∀ g : Int, 0 ≤ g → g < f.n → RdR T (rf g) (N g) (X g) ∧ OptR f l1 l2 g (N g) (X g) := by
 refine calls_of_run (F := [(0, _)]) Tryz.func41 rfl Tryz.ntmps41 rfl rfl ?_
 have hO0 := Own.init w
 refine run_seq <| run_region <| rl_ow rfl (ow_box _ rfl rfl rfl rfl rfl hO0) ?_
 rintro _ w1 ⟨bt, rfl, hO2, hs3⟩
 refine rl_v rfl rfl rfl (ov_assign rfl rfl) <| rl_nil <| run_seq <| run_region <| rl_v rfl rfl rfl (ov_load rfl Tryz.underlying80 rfl rfl (by exact hO2.cellL 0 rfl (off := 0) rfl)) ?_
 refine rl_call callable_73 rfl rfl rfl rfl rfl rfl (within_any tb f _ hV hm12 (hO2.pt h)) (fun e4 w5 hp6 => ?_)
 obtain ⟨ob, rf, N, X, T, l1, l2, nb, rfl, hO1, hB, hA, hD, hR⟩ := hp6
 refine ⟨_, rfl, ?_⟩
 have hO7 := hO2.join hO1
 refine rl_ow rfl (ow_alloc _ rfl rfl rfl zero_22 rfl hO7) ?_
 rintro _ w8 ⟨bo, rfl, hO9, hs10⟩
 refine rl_ow rfl (ow_storeL rfl rfl (by kernel_rfl) hO9 0 rfl rfl rfl rfl rfl) ?_
 rintro _ w11 ⟨rfl, hO12, hs13⟩
 refine rl_nil <| run_seq <| run_region <| rl_v rfl rfl rfl (ov_func rfl rfl rfl) <| rl_v rfl rfl rfl (ov_assign rfl rfl) <| rl_nil <| run_ret Tryz.func41 (res1 Tryz.results41 rfl) ?_
 exact ⟨bo, bt, ob, rf, N, X, T, l1, l2, nb, rfl, hO12.perm ((List.perm_append_comm (l₁ := some (vch ob 23 f.n rf) :: T) (l₂ := [_])).cons _), hB, hA, hD, hR⟩
end Go.Proofs.YtlldeifbfpmbaaaGreat
set_option maxRecDepth 100000
namespace Go.Proofs.YtlldeifbfpmbaaaGreat
open Go.RowKit Go.Proofs Go.MapKept
theorem opt_all {f : Fair} (hf : f.Ok) {l1 l2 nb : Int → Int} (hB : f.Best l1) (hA : f.AS l2 nb) {s : Int → Int} (hs : f.Stab s) {g : Int} (g0 : 0 ≤ g) (g1 : g < f.n) : Opt f l1 l2 g (s g) := by
 have hw := (hB.share hs).who g g0 g1
 rcases hs.poss.at_ g g0 g1 with e | ⟨e1, e2⟩
 ·exact .inl ⟨by rw [hw.2 e]; decide, e⟩
 ·obtain ⟨h1, h2⟩ := hB.best s hs g g0 g1 (by omega)
  refine .inr ⟨h1, e1, e2, h2, ?_⟩
  by_cases c : l2 g < 0
  ·rw [if_pos c]
   have h3 := pigeon (n := f.gl g) (m := f.m) (e := f.ge g) (fun k k0 k1 => hf.gr g k g0 g1 k0 k1) (hf.gd g g0 g1)
   have h4 := e2.1
   omega
  ·rw [if_neg c]
   exact (hA.worst hs g0 g1 (by omega)).2
end Go.Proofs.YtlldeifbfpmbaaaGreat
