import Derived.Test.YtlldeifbfpmbaaaGreatFoK
import Derived.Test.YtlldeifbfpmbaaaGreatFjA
import Derived.Test.YtlldeifbfpmbaaaGreatFcB
import Derived.Test.YtlldeifbfpmbaaaGreatFeB
import Derived.Test.YtlldeifbfpmbaaaGreatFgA
import Derived.Test.YtlldeifbfpmbaaaGreatFhA
import Derived.Test.YtlldeifbfpmbaaaGreatFgB
set_option maxRecDepth 100000
namespace Go.Proofs.YtlldeifbfpmbaaaGreat
open Go.RowKit Go.Proofs Go.MapKept
theorem p5y {α : Type} {x a b c d : α} {R : List α} : (x :: a :: b :: c :: d :: R).Perm (a :: b :: c :: d :: x :: R) := (List.perm_middle (l₁ := [a, b, c, d])).symm
section
variable {B : Nat} {w0 : World} {f : Fair} {ob tb : Nat} {ga ba qa : Option Addr} {gc bc qc : Nat} {l1 l2 : Int → Int} {rf : Int → Value} {No : Int → Nat} {Xo : Int → Int → Int} {TW : List (Option Blk)} {K : Kp} {most l bo bt : Nat}
set_option maxHeartbeats 1600000 in
theorem all1_any (hW : AllW B w0 f ob tb ga ba qa gc bc qc l1 l2 rf No Xo TW) (hV : Valid5 f f.m) (hY : YieldOk l B w0 f.n most K) (hm : 0 < most) (A : Nat → Int → Int) (KL : List (Option Blk)) (w : World) (hK : K 0 A KL)
  (hO : Own B w0 w (some (lch bo 22 [.slice (some ⟨ob, 0, none⟩) f.n f.n]) :: some (lch bt 80 [ptr tb]) :: (KL ++ TW))) :
  Calls Tryz.prog 74 #[.func (.yield l) #[] #[], ptr bo, ptr bt] w fun e w' => e = .returned (.tuple #[]) ∧ ∃ (b : Bool) (KL' : List (Option Blk)), Found f K most ((0 + 1) * (f.m + 1) ^ f.n) b KL' ∧ Own B w0 w' (some (lch bo 22 [.slice (some ⟨ob, 0, none⟩) f.n f.n]) :: some (lch bt 80 [ptr tb]) :: (KL' ++ TW)) := by
 obtain ⟨s0, hs0⟩ := Fair.Best.exists hV.ok
 refine calls_of_run (F := [(0, _), (1, _), (2, _)]) Tryz.func74 rfl Tryz.ntmps74 rfl rfl <| run_seq <| run_region <| rl_ow rfl (ow_box _ rfl rfl rfl rfl rfl hO) ?_
 rintro _ w1 ⟨by_, rfl, hO2, hs3⟩
 refine rl_nil <| run_seq <| run_region <| rl_ow rfl (ow_alloc _ rfl rfl rfl zero_23 rfl hO2) ?_
 rintro _ w4 ⟨bp, rfl, hO5, hs6⟩
 refine rl_nil <| run_seq <| run_region <| rl_ow rfl (ow_alloc _ rfl rfl rfl zero_36 rfl hO5) ?_
 rintro _ w7 ⟨bs, rfl, hO8, hs9⟩
 refine rl_nil <| run_seq <| run_region <| rl_v rfl rfl rfl (ov_func rfl rfl rfl) <| rl_ow rfl (ow_storeL rfl rfl (by kernel_rfl) hO8 0 rfl rfl rfl rfl rfl) ?_
 rintro _ w10 ⟨rfl, hO11, hs12⟩
 have hOn := hO11.nil_cons
 have hO2 : Own B w0 w10 (some (lch bp 23 [.slice none 0 0]) :: none :: (allX l by_ bo bt bs ob tb f.n bp ++ (KL ++ TW))) := (hOn.perm (p5y.cons none)).swap
 refine rl_nil <| run_region <| rl_v rfl rfl rfl (ov_load rfl Tryz.underlying36 rfl rfl (by exact hO2.cellL 5 rfl (off := 0) rfl)) ?_
 refine rl_call callable_75 rfl rfl rfl rfl rfl rfl (all11_any hW hV hY (f.n - 0) 0 (fun _ => -1) 0 A KL none 0 none _ rfl (Nat.zero_le _) (fun i i0 i1 => by omega) ⟨s0, hs0.stab, fun i i0 i1 => by omega⟩ hK hm (by show f.AllTo 0 A (0 * _); rw [Nat.zero_mul]; exact Fair.AllTo.init f A) (IRow.nil _ _) hO2) (fun e13 w14 hp15 => ?_)
 obtain ⟨b, KL', pv, cp', rfl, hFd, _, hO3⟩ := hp15
 refine ⟨_, rfl, ?_⟩
 refine rl_nil <| run_end Tryz.func74 (res0 Tryz.results74) ?_
 exact ⟨rfl, b, KL', hFd, hO3.sub (.cons _ (.cons _ (.cons _ (.cons_cons _ (.cons_cons _ (.cons _ (.refl _)))))))⟩
end
end Go.Proofs.YtlldeifbfpmbaaaGreat
set_option maxRecDepth 100000
namespace Go.Proofs.YtlldeifbfpmbaaaGreat
open Go.RowKit Go.Proofs Go.MapKept
theorem all5_any (tb : Nat) (f : Fair) (w : World) (hV : Valid5 f f.m) (hm12 : f.m ≤ 12) (h : PT w.heap.size w tb f) :
  Calls Tryz.prog 41 #[ptr tb] w fun e w' => ∃ (bo bt ob : Nat) (rf : Int → Value) (N : Int → Nat) (X : Int → Int → Int) (T : List (Option Blk)) (l1 l2 nb : Int → Int), e = .returned (.func (.func 74) #[] #[ptr bo, ptr bt]) ∧ Own w.heap.size w w' (some (lch bo 22 [.slice (some ⟨ob, 0, none⟩) f.n f.n]) :: some (lch bt 80 [ptr tb]) :: some (vch ob 23 f.n rf) :: T) ∧ f.Best l1 ∧ f.AS l2 nb ∧ (∀ b : Int, 0 ≤ b → b < f.m → Done f l2 nb b) ∧ ∀ g : Int, 0 ≤ g → g < f.n → RdR T (rf g) (N g) (X g) ∧ OptR f l1 l2 g (N g) (X g) := by
 refine calls_of_run (F := [(0, _)]) Tryz.func41 rfl Tryz.ntmps41 rfl rfl ?_
 have hO0 := Own.init w
 refine run_seq <| run_region <| rl_ow rfl (ow_box _ rfl rfl rfl rfl rfl hO0) ?_
 rintro _ w1 ⟨bt, rfl, hO2, hs3⟩
 refine rl_v rfl rfl rfl (ov_assign rfl rfl) <| rl_nil <| run_seq <| run_region <| rl_v rfl rfl rfl (ov_load rfl Tryz.underlying80 rfl rfl (by exact hO2.cellL 0 rfl (off := 0) rfl)) ?_
 refine rl_call callable_73 rfl rfl rfl rfl rfl rfl (within_any tb f _ hV hm12 (hO2.pt h)) (fun e4 w5 hp6 => ?_)
 obtain ⟨ob, rf, N, X, T, l1, l2, nb, rfl, hO1, hB, hA, hD, hR⟩ := hp6
 refine ⟨_, rfl, ?_⟩
 have hO7 := hO2.join hO1
 refine rl_ow rfl (ow_alloc _ rfl rfl rfl zero_22 rfl hO7) ?_
 rintro _ w8 ⟨bo, rfl, hO9, hs10⟩
 refine rl_ow rfl (ow_storeL rfl rfl (by kernel_rfl) hO9 0 rfl rfl rfl rfl rfl) ?_
 rintro _ w11 ⟨rfl, hO12, hs13⟩
 refine rl_nil <| run_seq <| run_region <| rl_v rfl rfl rfl (ov_func rfl rfl rfl) <| rl_v rfl rfl rfl (ov_assign rfl rfl) <| rl_nil <| run_ret Tryz.func41 (res1 Tryz.results41 rfl) ?_
 exact ⟨bo, bt, ob, rf, N, X, T, l1, l2, nb, rfl, hO12.perm ((List.perm_append_comm (l₁ := some (vch ob 23 f.n rf) :: T) (l₂ := [_])).cons _), hB, hA, hD, hR⟩
end Go.Proofs.YtlldeifbfpmbaaaGreat
set_option maxRecDepth 100000
namespace Go.Proofs.YtlldeifbfpmbaaaGreat
open Go.RowKit Go.Proofs Go.MapKept
theorem opt_all {f : Fair} (hf : f.Ok) {l1 l2 nb : Int → Int} (hB : f.Best l1) (hA : f.AS l2 nb) {s : Int → Int} (hs : f.Stab s) {g : Int} (g0 : 0 ≤ g) (g1 : g < f.n) : Opt f l1 l2 g (s g) := by
 have hw := (hB.share hs).who g g0 g1
 rcases hs.poss.at_ g g0 g1 with e | ⟨e1, e2⟩
 ·exact .inl ⟨by rw [hw.2 e]; decide, e⟩
 ·obtain ⟨h1, h2⟩ := hB.best s hs g g0 g1 (by omega)
  refine .inr ⟨h1, e1, e2, h2, ?_⟩
  by_cases c : l2 g < 0
  ·rw [if_pos c]
   have h3 := pigeon (n := f.gl g) (m := f.m) (e := f.ge g) (fun k k0 k1 => hf.gr g k g0 g1 k0 k1) (hf.gd g g0 g1)
   have h4 := e2.1
   omega
  ·rw [if_neg c]
   exact (hA.worst hs g0 g1 (by omega)).2
end Go.Proofs.YtlldeifbfpmbaaaGreat
set_option maxRecDepth 100000
namespace Go.Proofs.YtlldeifbfpmbaaaGreat
open Go.RowKit Go.Proofs Go.MapKept
theorem ov_eqlB5 {P : Program} {N : Nat} {o : Oper} {F : Fr} {w : World} {T U : TypeId} {x y : Operand} {a b : Bool} (ho : o.op = .binOp .eql T x y U) (hT : P.underlying T = some .bool) (hx : Fr.ev F x = some (.bool a)) (hy : Fr.ev F y = some (.bool b)) : OpV P N o F w (.bool (decide (a = b))) := by
 intro r hr
 unfold execOp
 have h1 := run_equal_bool (P := P) w T a b hT
 have e : (a == b) = decide (a = b) := by cases a <;> cases b <;> rfl
 simp only [ho, hr.ev hx, hr.ev hy, Sem.run_bind, eqGuard]
 simp [binOp, h1, Result.andThen, e]
section
variable (ga ba qa aa xa : Option Addr) (gc bc qc an ac xn xc : Nat) (f : Fair) (a b : Int → Int) (w : World) (hV : Valid5 f f.m) (hF : FAg w.heap.size w ga ba qa f f.m) (han : an ≤ 1000000) (hxn : xn ≤ 1000000) (ha : IAt w.heap.size w aa an (fun i => iv (a i))) (hb : IAt w.heap.size w xa xn (fun i => iv (b i)))
include hV hF han hxn ha hb
end
end Go.Proofs.YtlldeifbfpmbaaaGreat
set_option maxRecDepth 100000
namespace Go.Proofs.YtlldeifbfpmbaaaGreat
open Go.RowKit Go.Proofs Go.MapKept
section
variable {P : Program} {N n : Nat} {F : Fr} {w : World} {Q : Exit → Act → World → Prop} {ro : Option Nat} {a : Act}
theorem li_seq {ops : Array Oper} {y : Code} (h : CI ro n P N Q y F w) : LI ro n P N ops (Exit.then (y.wpIn (FW ro) n P Q) Q) [] F w := li_nil fun a ha => h a ha
theorem ci_exit {id : Nat} (h : ∀ a, Holds N F a → Q (.exit id) a w) : CI ro n P N Q (.exit id) F w := fun a ha => wpIn_exit (h a ha)
theorem ci_skip (h : ∀ a, Holds N F a → Q .normal a w) : CI ro n P N Q .skip F w := fun a ha => wpIn_skip (h a ha)
end
theorem inBlock_normal {Q : Exit → Act → World → Prop} {id : Nat} {a : Act} {w : World} (hq : Q .normal a w) : Exit.inBlock id Q .normal a w := hq
theorem inBlock_other {P : Program} {Q : Exit → Act → World → Prop} {id i : Nat} {a : Act} {w : World} (h : i ≠ id) (hq : Q (.exit i) a w) : Exit.inBlock id Q (.exit i) a w := by
 show (if i = id then _ else _)
 rw [if_neg h]; exact hq
section
variable {P : Program} {N n l B k : Nat} {F : Fr} {w w0 : World} {R : Ending → World → Prop} {a : Act} {H : List (Option Blk)} {r : Loop}
theorem beginK (h : Own B w0 w H) (k : Nat) (hk : H[k]? = some (some (och l (.loop r)))) (hs : r.state = .ready) {c : Code}
  (hb : ∀ w2, Own B w0 w2 (H.set k (some (och l (.loop { r with state := .busy })))) → CI (some l) n P N (roundPost P l R) c F w2) : ∀ a, Holds N F a → ∃ w₂, (Instr.beginRound l).run P w = .ok () w₂ ∧ c.wpIn (FW (some l)) n P (roundPost P l R) a w₂ :=
 fun a ha => ⟨_, run_beginRound (h.atO k hk) hs, hb _ (h.putO k hk _) a ha⟩
theorem endK (h : Own B w0 w H) (k : Nat) (hk : H[k]? = some (some (och l (.loop r)))) (hR : ∀ w2, Own B w0 w2 (H.set k (some (och l (.loop { r with state := .ready, pending := none })))) → R (.returned (.bool true)) w2) : roundPost P l R .normal a w :=
 ⟨_, _, run_endRound none (h.atO k hk), hR _ (h.putO k hk _)⟩
theorem endKx {id : Nat} (h : Own B w0 w H) (k : Nat) (hk : H[k]? = some (some (och l (.loop r)))) (hR : ∀ w2, Own B w0 w2 (H.set k (some (och l (.loop { r with state := .done, pending := some (.exit id) })))) → R (.returned (.bool false)) w2) : roundPost P l R (.exit id) a w :=
 ⟨_, _, run_endRound (some (.exit id)) (h.atO k hk), hR _ (h.putO k hk _)⟩
end
theorem perm_rowY {α : Type} {c l d x y e : α} {M T : List α} : (c :: l :: d :: x :: y :: (e :: M ++ T)).Perm (c :: e :: (M ++ (l :: d :: x :: y :: T))) := by
 classical
 rw [List.perm_iff_count]
 intro z
 simp only [List.count_append, List.count_cons, List.count_nil, List.cons_append, List.nil_append]
 omega
theorem perm_rowZ {α : Type} {l d x y : α} {M T : List α} : (M ++ (l :: d :: x :: y :: T)).Perm ((l :: d :: x :: y :: M) ++ T) := by
 classical
 rw [List.perm_iff_count]
 intro z
 simp only [List.count_append, List.count_cons, List.count_nil, List.cons_append, List.nil_append]
 omega
def recK (r : Loop) (most N : Nat) : Loop := { r with state := if N = most then .done else .ready, pending := if N = most then some (.exit 0) else none }
def KAll (b7 b3 D l : Nat) (r : Loop) (n most : Nat) : Kp := fun N A KL => ∃ (va : Option Addr) (vc : Nat) (HT : List (Option Blk)), OTab (.slice va N vc) 23 3 N (fun _ => n) (fun i k => iv (A i.toNat k)) HT ∧ KL = some (och l (.loop (recK r most N))) :: some (och D (.deferred (some []))) :: some (lch b7 22 [.slice va N vc]) :: some (lch b3 3 [iv most]) :: HT
theorem recK_0 {r : Loop} {most : Nat} (h : 1 ≤ most) (hs : r.state = .ready) (hp : r.pending = none) : recK r most 0 = r := by
 unfold recK
 rw [if_neg (by omega), if_neg (by omega), ← hs, ← hp]
theorem RdR.sub {T T' : List (Option Blk)} {v : Value} {n : Nat} {E : Int → Int} (h : RdR T v n E) (hs : T.Sublist T') : RdR T' v n E := by
 obtain ⟨ao, c, h1, h2, h3⟩ := h
 exact ⟨ao, c, h1, h2, fun B w0 w hO => h3 B w0 w (hO.sub hs)⟩
theorem recK_state {r : Loop} {most N : Nat} : (recK r most N).state ≠ .busy := by
 unfold recK
 dsimp only
 split <;> decide
theorem recK_pend {r : Loop} {most N : Nat} : (recK r most N).pending = none ∨ (recK r most N).pending = some (.exit 0) := by
 unfold recK
 dsimp only
 split
 ·exact .inr rfl
 ·exact .inl rfl
theorem run_rangeAll {f N : Nat} {k : List Item} {F : Fr} {w w0 : World} {R : Ending → World → Prop} {id gf B b7 b3 n most : Nat} {g : Operand} {ps : Array Tmp} {assign body : Code} {cap : Array Value} (hcl : Callable Tryz.prog gf) (hg : Fr.ev F g = some (.func (.func gf) #[] cap))
  (hy : ∀ fn a, Holds N F a → YieldOk (w.heap.size + 1) B w0 n most (KAll b7 b3 w.heap.size (w.heap.size + 1) (lrec fn a.tmps ps assign body w.heap.size) n most))
  (h : ∀ fn a, Holds N F a → YieldOk (w.heap.size + 1) B w0 n most (KAll b7 b3 w.heap.size (w.heap.size + 1) (lrec fn a.tmps ps assign body w.heap.size) n most) → Calls Tryz.prog gf (#[.func (.yield (w.heap.size + 1)) #[] #[]] ++ cap) ((w.alloc (.deferred (some []))).alloc (.loop (lrec fn a.tmps ps assign body w.heap.size))) fun e w3 =>
   ∃ (v : Value) (r : Loop), e = .returned v ∧ w3.heap[w.heap.size + 1]? = some (.loop r) ∧ r.state ≠ .busy ∧ (r.pending = none ∨ r.pending = some (.exit id)) ∧
    RM Tryz.prog f N [{ target := .collected w.heap.size, args := #[] }] k F (w3.putObj (w.heap.size + 1) (.loop { r with state := .exhausted })) R) :
  Run Tryz.prog f N (.code (.block id (.rangeFunc g ps assign body)) :: k) F w R := run_rangeFunc hcl hg fun fn a ha => h fn a ha (hy fn a ha)
theorem perm_all {α : Type} {a b l d x y z n o : α} {T H : List α} : (n :: l :: d :: ((a :: b :: o :: T) ++ (H ++ [x, y, z]))).Perm (a :: b :: ([l, d, x, y, n] ++ (o :: (T ++ (H ++ [z]))))) := by
 classical
 rw [List.perm_iff_count]
 intro c
 simp only [List.count_append, List.count_cons, List.count_nil, List.cons_append, List.nil_append]
 omega
theorem OTab.rtab {B : Nat} {w0 w : World} {ao : Option Addr} {m cap : Nat} {T1 T2 : TypeId} {n : Nat} {L : Int → Nat} {E : Int → Int → Int} {H : List (Option Blk)} (h : OTab (.slice ao m cap) T1 T2 n L (fun r c => iv (E r c)) H) (ho : Own B w0 w H) : RTab w.heap.size w ao n L E := by
 obtain ⟨c, rv, ch, rfl, h2, h3⟩ := h
 have hv : ∀ r : Int, ∃ p : Option Addr × Nat, 0 ≤ r → r < n → rv r = .slice p.1 (L r) p.2 ∧ L r ≤ p.2 ∧ IAt w.heap.size w p.1 (L r) (fun j => iv (E r j)) := fun r => by
  by_cases hr : 0 ≤ r ∧ r < n
  ·obtain ⟨q, rfl⟩ := Int.eq_ofNat_of_zero_le hr.1
   have h3q := h3 q (by omega)
   obtain ⟨x, y, e⟩ := Row.val h3q
   have hk : (c :: (List.range n).map ch)[q + 1]? = some (ch q) := by
    have : q < n := by omega
    simp [this]
   rw [e] at h3q
   exact ⟨(x, y), fun _ _ => ⟨e, h3q.capF, h3q.reads ho (q + 1) hk⟩⟩
  ·exact ⟨(none, 0), fun a b => absurd ⟨a, b⟩ hr⟩
 refine ⟨fun r => (Classical.choose (hv r)).1, fun r => (Classical.choose (hv r)).2, ?_, fun r r0 r1 => ?_, fun r r0 r1 => ?_⟩
 ·exact (h2.reads ho 0 rfl).congr fun r r0 r1 => (Classical.choose_spec (hv r) r0 r1).1
 ·exact (Classical.choose_spec (hv r) r0 r1).2.1
 ·exact (Classical.choose_spec (hv r) r0 r1).2.2
set_option maxHeartbeats 4000000 in
theorem allX_any (ga ba qa : Option Addr) (gc bc qc : Nat) (f : Fair) (most : Nat) (w : World) (hV : Valid5 f f.m) (hm12 : f.m ≤ 12) (hF : FAg w.heap.size w ga ba qa f f.m) (hR : RTab w.heap.size w ba f.m f.bl f.be) (h1 : 1 ≤ most) (h2 : most ≤ 1000) :
  Calls Tryz.prog 10 #[.agg #[.slice ga f.n gc, .slice ba f.m bc, .slice qa f.m qc], iv most] w fun e w' => ∃ (va : Option Addr) (vc N : Nat) (A : Nat → Int → Int) (H : List (Option Blk)), e = .returned (.tuple #[.slice va N vc, iv 0]) ∧ OTab (.slice va N vc) 23 3 N (fun _ => f.n) (fun r k => iv (A r.toNat k)) H ∧ Own w.heap.size w w' H ∧
   (N < most ∧ f.AllTo N A ((0 + 1) * (f.m + 1) ^ f.n) ∨ N = most ∧ ∃ V, f.AllTo N A V) := by
 have hlg := hV.lg
 refine calls_of_run (F := [(0, _), (1, _)]) Tryz.func10 rfl Tryz.ntmps10 rfl rfl ?_
 have hO0 := Own.init w
 refine run_seq <| run_region <| rl_ow rfl (ow_box _ rfl rfl rfl rfl rfl hO0) ?_
 rintro _ w1 ⟨b2, rfl, hO2, hs3⟩
 refine rl_ow rfl (ow_box _ rfl rfl rfl rfl rfl hO2) ?_
 rintro _ w4 ⟨b3, rfl, hO5, hs6⟩
 refine rl_v rfl rfl rfl (ov_assign rfl rfl) <| rl_v rfl rfl rfl (ov_assign rfl rfl) <| rl_nil <| run_seq <| run_seq <| run_region <| rl_v rfl rfl rfl (ov_loadW rfl Tryz.underlying27 rfl (by kernel_rfl) rfl hO5 1 rfl) ?_
 refine rl_call callable_23 rfl rfl rfl rfl rfl rfl (check5_any ga ba qa gc bc qc f.m f _ hlg.n hlg.m hlg.q hlg.gl hlg.bl (hO5.fag hF)) (fun e7 w8 hp9 => ?_)
 obtain ⟨rfl, hbl⟩ := hp9
 refine ⟨_, rfl, ?_⟩
 have hO10 := hO5.past hbl
 have h0 := chkF_0.2 hV
 refine rl_v rfl rfl rfl (ov_assign rfl rfl) <| rl_nil <| run_seq <| run_region <| rl_v rfl rfl rfl (ov_move rfl rfl) <| rl_v rfl rfl rfl (ov_neq rfl rfl rfl) <| rl_nil ?_
 first | refine run_cond_dec rfl (fun c1 => ?_) (fun c1 => ?_) | refine run_cond rfl (fun c1 => ?_) (fun c1 => ?_)
 ·exfalso; exact c1 h0
 ·refine run_skip <| run_seq <| run_seq <| run_region <| rl_v rfl rfl rfl (ov_load rfl Tryz.underlying3 rfl rfl (by exact hO10.cellL 0 rfl (off := 0) rfl)) ?_
  refine rl_v rfl rfl rfl (ov_lss rfl rfl rfl) <| rl_v rfl rfl rfl (ov_move rfl rfl) ?_
  first | refine rl_noD 16 rfl ((show ¬ (most : Int) < 1 by omega)) ?_ | refine rl_no 16 rfl ((show ¬ (most : Int) < 1 by omega)) ?_
  refine rl_gv rfl rfl rfl rfl rfl (ov_load rfl Tryz.underlying3 rfl rfl (by exact hO10.cellL 0 rfl (off := 0) rfl)) ?_
  refine rl_gv rfl rfl rfl rfl rfl (ov_gtr rfl rfl rfl) <| rl_v rfl rfl rfl (ov_pick_f rfl rfl rfl) <| rl_nil ?_
  first | refine run_cond_dec rfl (fun c2 => ?_) (fun c2 => ?_) | refine run_cond rfl (fun c2 => ?_) (fun c2 => ?_)
  ·exfalso; omega
  ·refine run_skip <| run_seq <| run_region <| rl_ow rfl (ow_alloc _ rfl rfl rfl zero_22 rfl hO10) ?_
   rintro _ w11 ⟨b7, rfl, hO12, hs13⟩
   refine rl_nil <| run_seq <| run_seq <| run_region <| rl_v rfl rfl rfl (ov_loadW rfl Tryz.underlying27 rfl (by kernel_rfl) rfl hO12 2 rfl) ?_
   refine rl_call callable_40 rfl rfl rfl rfl rfl rfl (newTablesX_any ga ba qa gc bc qc f _ hV.sm ((hO12.fag hF).fat rfl)) (fun e14 w15 hp16 => ?_)
   obtain ⟨tb, H1, rfl, hO1, hP⟩ := hp16
   refine ⟨_, rfl, ?_⟩
   have hO17 := hO12.join hO1
   refine rl_call callable_41 rfl rfl rfl rfl rfl rfl (all5_any tb f _ hV hm12 (hP _ _ _ (hO17.sub (List.sublist_append_left _ _)) ((hO17.fag hF).fat rfl)).pt) (fun e18 w19 hp20 => ?_)
   obtain ⟨bo, bt, ob, rf, No, X, T, l1, l2, nb, rfl, hO2, hB, hA, hD, hRX⟩ := hp20
   refine ⟨_, rfl, ?_⟩
   have hO21 := hO17.join hO2
   refine rl_nil ?_
   have hOb := hO21
   have hRb := hO21.rtab hR
   have hFb := (hO21.fag hF).fat rfl
   refine run_rangeAll (B := w.heap.size) (w0 := w) (b7 := b7) (b3 := b3) (n := f.n) (most := most) callable_74 rfl (fun fn a ha => ?_) (fun fn a ha hY => ?_)
   ·intro N A KL T wy x s c hK hN hx hOy
    obtain ⟨va, vc, HT, hTb, rfl⟩ := hK
    obtain ⟨xa, xc, rfl⟩ := Row.val hx
    obtain ⟨co, rv, ch, rfl, hv, h3t⟩ := hTb
    refine yieldAt_round (hOy.atO 1 rfl) rfl ha.size (fun i u hu => ha.at_ i u hu) rfl (ci_region (li_v rfl (fun _ h => by cases h) rfl rfl (ov_assign rfl rfl) (li_nil (round_body (beginK hOy 1 rfl (if_neg (by omega)) fun w2 hO2 => ?_)))))
    refine ci_block (ci_seq (ci_region (li_v rfl (fun _ h => by cases h) rfl rfl (ov_load rfl Tryz.underlying22 rfl rfl (hO2.cellL 3 rfl (off := 0) rfl)) (li_v rfl (fun _ h => by cases h) rfl rfl (ov_move rfl rfl) (li_ow rfl (fun _ h => by cases h) (ow_one rfl rfl rfl Tryz.underlying22 info_23 rfl hO2 rfl rfl) ?_)))))
    rintro _ w3 ⟨bx, rfl, hO3, _⟩
    refine li_ow rfl (fun _ h => by cases h) (ow_app1 rfl rfl rfl Tryz.underlying22 info_23 rfl hO3 5 hv rfl rfl rfl rfl ⟨by omega, by omega⟩) ?_
    rintro _ w4 ⟨v7, c7, rfl, hO4, hv7, _⟩
    obtain ⟨a7, cp7, rfl⟩ := Row.val hv7
    refine li_ow rfl (fun _ h => by cases h) (ow_storeL rfl rfl (by kernel_rfl) hO4 3 rfl rfl rfl rfl rfl) ?_
    rintro _ w5 ⟨rfl, hO5, _⟩
    have hfin : ∀ (r0 r : Loop) (w6 : World), r = recK r0 most (N + 1) → Own w.heap.size w w6 (c :: some (och (w19.heap.size + 1) (.loop r)) :: some (och w19.heap.size (.deferred (some []))) :: some (lch b7 22 [.slice a7 (N + 1) cp7]) :: some (lch b3 3 [iv most]) :: (c7 :: (List.range N).map ch ++ T)) →
      ∃ (A' : Nat → Int → Int) (KL' : List (Option Blk)), KAll b7 b3 w19.heap.size (w19.heap.size + 1) r0 f.n most (N + 1) A' KL' ∧ (∀ j : Nat, j < N → A' j = A j) ∧ A' N = s ∧ Own w.heap.size w w6 (KL' ++ T) := fun r0 r w6 hr hO6 => by
     obtain ⟨H', hT', hO7⟩ := OTab.snoc (L := fun _ => f.n) (F := fun i k => iv ((fun j => if j = N then s else A j) i.toNat k)) (rv := rv) (ch := ch) (fun i hi => by
      have e2 : (if ((i : Int).toNat) = N then s else A ((i : Int).toNat)) = A i := if_neg (by omega)
      simp only [e2]
      exact h3t i hi) hx hv7 (hO6.perm perm_rowY) rfl (fun j j0 j1 => by
      have e2 : (if (((N : Int)).toNat) = N then s else A (((N : Int)).toNat)) = s := if_pos (by omega)
      simp only [e2])
     exact ⟨fun j => if j = N then s else A j, _, ⟨a7, cp7, H', hT', by rw [hr]⟩, fun j hj => if_neg (by omega), if_pos rfl, hO7.perm perm_rowZ⟩
    refine li_seq (ci_seq (ci_region (li_v rfl (fun _ h => by cases h) rfl rfl (ov_load rfl Tryz.underlying22 rfl rfl (hO5.cellL 3 rfl (off := 0) rfl)) (li_v rfl (fun _ h => by cases h) rfl rfl (ov_len rfl Tryz.underlying22 rfl) (li_v rfl (fun _ h => by cases h) rfl rfl (ov_load rfl Tryz.underlying3 rfl rfl (hO5.cellL 4 rfl (off := 0) rfl)) (li_v rfl (fun _ h => by cases h) rfl rfl (ov_eql rfl rfl rfl) (li_seq ?_)))))))
    refine ci_cond rfl (fun ht => ci_exit fun a4 ha4 => inBlock_other (P := Tryz.prog) (by decide) ?_) (fun hf => ci_skip fun a4 ha4 => inBlock_normal ?_)
    ·refine endKx hO5 1 rfl fun w6 hO6 => ?_
     have hNm : N + 1 = most := by have := of_decide_eq_true ht; omega
     obtain ⟨A', KL', h3, h4, h5, h6⟩ := hfin _ _ w6 (by unfold recK; rw [if_pos hNm, if_pos hNm]) hO6
     exact ⟨_, rfl, A', KL', by rw [decide_eq_false (by omega)], h3, h4, h5, h6⟩
    ·refine endK hO5 1 rfl fun w6 hO6 => ?_
     have hNm : ¬ N + 1 = most := by have := of_decide_eq_false hf; omega
     obtain ⟨A', KL', h3, h4, h5, h6⟩ := hfin _ _ w6 (by unfold recK; rw [if_neg hNm, if_neg hNm]) hO6
     exact ⟨_, rfl, A', KL', by rw [decide_eq_true (by omega)], h3, h4, h5, h6⟩
   ·have hW : AllW w.heap.size w f ob tb ga ba qa gc bc qc l1 l2 rf No X (some (vch ob 23 f.n rf) :: (T ++ (H1 ++ [some (lch b2 27 [.slice ga f.n gc, .slice ba f.m bc, .slice qa f.m qc])]))) := by
     refine ⟨fun ww hOw => ⟨hP _ _ ww (hOw.sub (.cons _ ((List.sublist_append_left _ _).trans (List.sublist_append_right _ _)))) ((hOw.fag hF).fat rfl), hOw.rtab hR, hOw.readsI 0 rfl⟩, fun g g0 g1 => ⟨(hRX g g0 g1).1.sub (.cons _ (List.sublist_append_left _ _)), (hRX g g0 g1).2⟩, fun s hs g g0 g1 => opt_all hV.ok hB hA hs g0 g1⟩
    have e1 : (w19.alloc (.deferred (some []))).heap.size = w19.heap.size + 1 := by simp
    have hOl := fun r : Loop => ((hOb.allocO (.deferred (some []))).allocO (.loop r)).nil_cons
    rw [e1] at hOl
    refine (all1_any hW hV hY h1 (fun _ _ => 0) _ _ ⟨none, 0, [none], OTab.nil _ _ _ _, rfl⟩ (by rw [recK_0 h1 rfl rfl]; exact (hOl _).perm perm_all)).mono fun e w3 ⟨he, b, KL', hFd, hO3⟩ => ?_
    obtain ⟨N, A, ⟨va, vc, HT, hTb, rfl⟩, ht, hf⟩ := hFd
    refine ⟨_, _, he, hO3.atO 2 rfl, recK_state, recK_pend, ?_⟩
    have hO4 := fun r : Loop => hO3.putO 2 rfl (.loop r)
    refine rm_seq (rm_region (rml_v rfl rfl rfl (ov_load rfl Tryz.underlying22 rfl rfl ((hO4 _).cellL 4 rfl (off := 0) rfl)) (rml_v rfl rfl rfl (ov_assign rfl rfl) (rml_v rfl rfl rfl (ov_assign rfl rfl) (rml_nil (rm_ret Tryz.func10 ((hO4 _).atO 3 rfl) (res2 Tryz.results10 rfl rfl) ?_))))))
    have hO5 := fun r : Loop => ((hO4 r).putO 3 rfl (.deferred none)).sub (.cons _ (.cons _ (.cons _ (.cons _ (.cons _ (.cons _ (List.sublist_append_left HT _)))))))
    refine ⟨va, vc, N, A, HT, rfl, hTb, hO5 _, ?_⟩
    cases b
    ·obtain ⟨e2, V, _, hAV⟩ := hf rfl
     exact .inr ⟨e2, V, hAV⟩
    ·exact .inl (ht rfl)
end Go.Proofs.YtlldeifbfpmbaaaGreat
