import Derived.Test.YtbcjfjldmfljgaaGreatPrK
import Derived.Test.YtbcjfjldmfljgaaGreatGcC
set_option maxRecDepth 100000
namespace Go.Proofs.YtbcjfjldmfljgaaGreat
open Go.RowKit Go.Proofs Go.MapKept
section
variable {P : Program} {N : Nat} {o : Oper} {F : Fr} {w : World}
theorem ov_sliceM {T E : TypeId} {x l : Operand} {b off n c s : Nat} {k1 : IntKind} {i : Int} {ao2 : Option Addr} (h2 : ao2 = if c = i.toNat then some ⟨b, off, none⟩ else some ⟨b, off + i.toNat * s, none⟩) (ho : o.op = .slice T x (some l) none none) (hT : P.underlying T = some (.slice E)) (hs : (P.info? E).map (·.size) = some s)
  (hx : Fr.ev F x = some (.slice (some ⟨b, off, none⟩) n c)) (hl : Fr.ev F l = some (.int k1 i)) (hb : 0 ≤ i ∧ i ≤ n) (hnc : n ≤ c) :
  OpV P N o F w (.slice ao2 (n - i.toNat) (c - i.toNat)) := by
 intro a ha
 subst h2
 cases hq : P.info? E with
 | none => simp [hq] at hs
 | some q =>
  have hs' : q.size = s := by simpa [hq] using hs
  unfold execOp
  rw [ho]
  have hb2 : i ≤ c := by omega
  by_cases h3 : c = i.toNat
  ·simp [Instr.sliceAt, Instr.slice, Instr.sliceBounds, Instr.sliceBound, asIntOf, run_underlying hT, ha.ev hx, ha.ev hl, Result.andThen, hb, sizeOf, typeInfo, hq, h3]
  ·simp [Instr.sliceAt, Instr.slice, Instr.sliceBounds, Instr.sliceBound, asIntOf, run_underlying hT, ha.ev hx, ha.ev hl, Result.andThen, hb, sizeOf, typeInfo, hq, hs', h3, Addr.add_mid]
end
theorem cellAtK {B : Nat} {w0 w : World} {H : List (Option Blk)} {b cap : Nat} {t : TypeId} {G : Int → Value} (hO : Own B w0 w H) (k : Nat) (hk : H[k]? = some (some (vch b t cap G))) {j z : Nat} (hz : z = j) (hj : j < cap) : w.cell? ⟨b, z, none⟩ = some (G (j : Int)) := by
 rw [hz]
 have := hO.cellI k hk (j : Int) (by omega) (by omega)
 rw [Nat.zero_add, Int.toNat_natCast] at this
 exact this
def keyM (N : Nat) (v : Int → Int) (sd : Int) (i : Int) : Int := if sd = 1 then -(mkP N v i) else mkP N v i
theorem mkP_rng {N : Nat} {v : Int → Int} (hv : ∀ i : Int, 0 ≤ i → i < N → 1 ≤ v i ∧ v i ≤ 100000) {i : Int} (i0 : 0 ≤ i) : 1 ≤ mkP N v i ∧ mkP N v i ≤ 100000 := by
 unfold mkP
 split
 ·exact hv i i0 (by assumption)
 ·omega
theorem serve1_any (la : Option Addr) (lc b6 b7 N n B : Nat) (v : Int → Int) (sd : Int) (Y : Int → Int) (q : Nat) (w0 : World) (K : List (Option Blk)) (x : Option Blk) (hv : ∀ i : Int, 0 ≤ i → i < N → 1 ≤ v i ∧ v i ≤ 100000) (hl : SAt B w0 la 3 (N + 1) (bdF N n v)) (hY : ∀ i : Int, 0 ≤ i → i < q → 0 ≤ Y i ∧ Y i < ((N + 1 : Nat) : Int)) :
  CmpS 73 #[ptr b7, ptr b6] (keyM N v sd) Y q B w0 (x :: some (lch b7 3 [iv sd]) :: some (lch b6 24 [.slice la (N + 1) lc]) :: K) := fun a b w ⟨i, hi, ei⟩ ⟨j, hj, ej⟩ hO => by
 have ha := hY i hi.1 hi.2
 have hb := hY j hj.1 hj.2
 rw [ei] at ha
 rw [ej] at hb
 have hpa := mkP_rng hv ha.1
 have hpb := mkP_rng hv hb.1
 have h7 := hO.cellOld 1 rfl (off := 0) rfl
 have h6 := hO.cellOld 2 rfl (off := 0) rfl
 obtain ⟨lb, lo, hla, hlr⟩ := (hO.satU hl).open (by decide)
 refine calls_of_run (F := [(0, _), (1, _), (2, _), (3, _)]) Tryz.func73 rfl Tryz.ntmps73 rfl rfl ?_
 have hO0 := Own.init w
 refine run_seq <| run_region <| rl_v rfl rfl rfl (ov_assign rfl rfl) <| rl_nil <| run_seq <| run_seq <| run_region <| rl_v rfl rfl rfl (ov_load rfl Tryz.underlying3 rfl rfl (by exact h7 _ hO0.below)) ?_
 refine rl_v rfl rfl rfl (ov_eql rfl rfl rfl) <| rl_nil ?_
 first | refine run_cond_dec rfl (fun c1 => ?_) (fun c1 => ?_) | refine run_cond rfl (fun c1 => ?_) (fun c1 => ?_)
 ·have hca := hlr _ hO0.below a ha.1 ha.2 1 (by decide)
  have hcb := hlr _ hO0.below b hb.1 hb.2 1 (by decide)
  have hc6 := h6 _ hO0.below
  refine run_region <| rl_v rfl rfl rfl (ov_move rfl rfl) <| rl_v rfl rfl rfl (ov_move rfl rfl) <| rl_v rfl rfl rfl (ov_assign rfl rfl) <| rl_v rfl rfl rfl (ov_assign rfl rfl) <| rl_nil <| run_seq <| run_quiet mixed (by kernel_rfl) ?_
  refine rq_v rfl rfl rfl (fun _ => ov_load rfl Tryz.underlying24 rfl rfl (by show World.cell? w _ = _; first | exact id hc6)) ?_
  refine rq_v rfl rfl rfl (fun _ => ov_move rfl rfl) ?_
  refine rq_v rfl rfl rfl (fun _ => ov_index rfl Tryz.underlying24 (by kernel_rfl) (s := 3) rfl rfl ⟨by omega, by omega⟩ (by exact hla (by omega))) ?_
  refine rq_v rfl rfl rfl (fun _ => ov_fieldS rfl Tryz.underlying28 rfl (fo := 1) rfl (by kernel_rfl) rfl) ?_
  refine rq_v rfl rfl rfl (fun _ => ov_load rfl Tryz.underlying2 rfl rfl (by show World.cell? w _ = _; first | exact id hcb)) ?_
  refine rq_v rfl rfl rfl (fun _ => ov_load rfl Tryz.underlying24 rfl rfl (by show World.cell? w _ = _; first | exact id hc6)) ?_
  refine rq_v rfl rfl rfl (fun _ => ov_move rfl rfl) ?_
  refine rq_v rfl rfl rfl (fun _ => ov_index rfl Tryz.underlying24 (by kernel_rfl) (s := 3) rfl rfl ⟨by omega, by omega⟩ (by exact hla (by omega))) ?_
  refine rq_v rfl rfl rfl (fun _ => ov_fieldS rfl Tryz.underlying28 rfl (fo := 1) rfl (by kernel_rfl) rfl) ?_
  refine rq_v rfl rfl rfl (fun _ => ov_load rfl Tryz.underlying2 rfl rfl (by show World.cell? w _ = _; first | exact id hca)) ?_
  refine rq_v rfl rfl rfl (fun _ => ov_sub rfl rfl rfl (by omega)) ?_
  refine rq_v rfl rfl rfl (fun _ => ov_assign rfl rfl) ?_
  refine rq_nil (fun n1 => ?_)
  have hO3 := hO0.drewN n1
  generalize World.drewN w n1 = w2 at hO3 ⊢
  refine run_ret Tryz.func73 (res1 Tryz.results73 rfl) ?_
  exact ⟨by unfold keyM; rw [if_pos c1, if_pos c1]; exact congrArg (fun z => Ending.returned (iv z)) (by show mkP N v b - mkP N v a = _; omega), hO3⟩
 ·have hca := hlr _ hO0.below a ha.1 ha.2 1 (by decide)
  have hcb := hlr _ hO0.below b hb.1 hb.2 1 (by decide)
  have hc6 := h6 _ hO0.below
  refine run_skip <| run_seq <| run_quiet mixed (by kernel_rfl) ?_
  refine rq_v rfl rfl rfl (fun _ => ov_load rfl Tryz.underlying24 rfl rfl (by show World.cell? w _ = _; first | exact id hc6)) ?_
  refine rq_v rfl rfl rfl (fun _ => ov_move rfl rfl) ?_
  refine rq_v rfl rfl rfl (fun _ => ov_index rfl Tryz.underlying24 (by kernel_rfl) (s := 3) rfl rfl ⟨by omega, by omega⟩ (by exact hla (by omega))) ?_
  refine rq_v rfl rfl rfl (fun _ => ov_fieldS rfl Tryz.underlying28 rfl (fo := 1) rfl (by kernel_rfl) rfl) ?_
  refine rq_v rfl rfl rfl (fun _ => ov_load rfl Tryz.underlying2 rfl rfl (by show World.cell? w _ = _; first | exact id hca)) ?_
  refine rq_v rfl rfl rfl (fun _ => ov_load rfl Tryz.underlying24 rfl rfl (by show World.cell? w _ = _; first | exact id hc6)) ?_
  refine rq_v rfl rfl rfl (fun _ => ov_move rfl rfl) ?_
  refine rq_v rfl rfl rfl (fun _ => ov_index rfl Tryz.underlying24 (by kernel_rfl) (s := 3) rfl rfl ⟨by omega, by omega⟩ (by exact hla (by omega))) ?_
  refine rq_v rfl rfl rfl (fun _ => ov_fieldS rfl Tryz.underlying28 rfl (fo := 1) rfl (by kernel_rfl) rfl) ?_
  refine rq_v rfl rfl rfl (fun _ => ov_load rfl Tryz.underlying2 rfl rfl (by show World.cell? w _ = _; first | exact id hcb)) ?_
  refine rq_v rfl rfl rfl (fun _ => ov_sub rfl rfl rfl (by omega)) ?_
  refine rq_v rfl rfl rfl (fun _ => ov_assign rfl rfl) ?_
  refine rq_nil (fun n4 => ?_)
  have hO6 := hO0.drewN n4
  generalize World.drewN w n4 = w5 at hO6 ⊢
  refine run_ret Tryz.func73 (res1 Tryz.results73 rfl) ?_
  exact ⟨by unfold keyM; rw [if_neg c1, if_neg c1], hO6⟩
def pkM (N : Nat) (v : Int → Int) (p sd i : Int) : Prop := mkS N i = sd ∧ tkP N v p i
structure SrvQ (N n : Nat) (v : Int → Int) (p sd V : Int) (m : Nat) (A : Int → Int) : Prop where
 m1 : 1 ≤ m ∧ m ≤ 9
 cnt : ∀ (c : Nat) (I : Int → Int), Pick (pkM N v p sd) (N + 1) c I → c = m
 dst : ∀ a b : Int, 0 ≤ a → a < ((N + 1 : Nat) : Int) → 0 ≤ b → b < ((N + 1 : Nat) : Int) → pkM N v p sd a → pkM N v p sd b → mkP N v a = mkP N v b → a = b
 amt : ∀ i x : Int, 0 ≤ i → i < ((N + 1 : Nat) : Int) → pkM N v p sd i → 0 ≤ x → x < m → 0 < V - sm A x ∧ min (mkQ N n i) (V - sm A x) = A x
 V : 0 ≤ V ∧ V ≤ 100
theorem mkQ_rng {N n : Nat} (hn : 1 ≤ n ∧ n ≤ 8) (i : Int) : 1 ≤ mkQ N n i ∧ mkQ N n i ≤ 8 := by
 unfold mkQ; split <;> omega
set_option maxHeartbeats 8000000 in
theorem serve_any (la : Option Addr) (lc N n : Nat) (v : Int → Int) (p sd V : Int) (m : Nat) (A : Int → Int) (fb B : Nat) (Fi : Int → Int) (K : List (Option Blk)) (w0 w : World) (hN : N ≤ 8) (hn : 1 ≤ n ∧ n ≤ 8) (hv : ∀ i : Int, 0 ≤ i → i < N → 1 ≤ v i ∧ v i ≤ 100000) (hQ : SrvQ N n v p sd V m A) (hl : SAt B w0 la 3 (N + 1) (bdF N n v)) (hO : Own B w0 w (some (vch fb 2 (N + 1) (fun i => iv (Fi i))) :: K)) :
  Calls Tryz.prog 46 #[.slice la (N + 1 : Nat) lc, iv sd, iv p, iv V, iv 1, .slice (some ⟨fb, 0, none⟩) (N + 1 : Nat) (N + 1 : Nat)] w fun e w' => e = .returned (.tuple #[]) ∧ ∃ Fo : Int → Int, (∀ i : Int, 0 ≤ i → i < ((N + 1 : Nat) : Int) → pkM N v p sd i → ∃ x : Int, (0 ≤ x ∧ x < m) ∧ Fo i = A x) ∧ (∀ i : Int, ¬ pkM N v p sd i → Fo i = Fi i) ∧ Own B w0 w' (some (vch fb 2 (N + 1) (fun i => iv (Fo i))) :: K) := by
 have hm9 := hQ.m1
 have hV := hQ.V
 obtain ⟨lb, lo, hla, hlr⟩ := hl.open (by decide)
 refine calls_of_run (F := [(0, _), (1, _), (2, _), (3, _), (4, _), (5, _)]) Tryz.func46 rfl Tryz.ntmps46 rfl rfl <| run_seq <| run_region <| rl_ow rfl (ow_box _ rfl rfl rfl rfl rfl hO) ?_
 rintro _ w1 ⟨b6, rfl, hO2, hs3⟩
 refine rl_ow rfl (ow_box _ rfl rfl rfl rfl rfl hO2) ?_
 rintro _ w4 ⟨b7, rfl, hO5, hs6⟩
 have hO0 := hO5.nil_cons
 refine rl_nil <| run_seq <| run_region <| rl_v rfl rfl rfl (ov_assign rfl rfl) <| rl_nil <| run_seq <| run_seq <| run_region <| rl_v rfl rfl rfl (ov_load rfl Tryz.underlying24 rfl rfl (by exact hO0.cellL 2 rfl rfl)) ?_
 refine rl_v rfl rfl rfl (ov_len rfl Tryz.underlying24 rfl) <| rl_v rfl rfl rfl (ov_move rfl rfl) <| rl_nil <| run_block <| Run.keep [2, 3, 4, 5, 6, 7, 12, 24, 25, 26] (F' := [(2, _), (3, _), (4, _), (5, _), (6, _), (7, _), (12, _), (24, _), (25, _), (26, _)]) rfl <| run_loop3 (fun (i : Nat) (v12 : Value) (c : Nat) => [(26, .int .i64 (i : Int)), (12, v12)]) [2, 3, 4, 5, 6, 7, 24, 25] (fun (i : Nat) (v12 : Value) (c : Nat) (w7 : World) => i ≤ N + 1 ∧ ∃ (I : Int → Int) (cb : Option Blk), Pick (pkM N v p sd) i c I ∧ IRow v12 3 c (fun x => iv (I x)) cb ∧ Own B w0 w7 (cb :: some (lch b7 3 [iv sd]) :: some (lch b6 24 [.slice la (N + 1) lc]) :: some (vch fb 2 (N + 1) (fun i => iv (Fi i))) :: K)) (fun (i : Nat) (v12 : Value) (c : Nat) => N + 1 - i) (0) (.slice none 0 0) (0) ?_ (And.intro (by exact slot_int rfl (by first | omega)) (And.intro rfl (And.intro rfl (And.intro rfl (And.intro rfl (And.intro rfl (And.intro rfl (And.intro rfl (And.intro rfl (And.intro rfl trivial)))))))))) ?_
 ·exact ⟨Nat.zero_le _, fun _ => 0, none, Pick.nil _ _, IRow.nil _ _, hO0⟩
 intro i v12 c w7 hIw7 ih8
 obtain ⟨hi, I, cb, hP, hr, hO1⟩ := hIw7
 show Run _ _ _ _ [(26, _), (12, _), (2, _), (3, _), (4, _), (5, _), (6, _), (7, _), (24, _), (25, _)] _ _
 refine run_seq <| run_region <| rl_v rfl rfl rfl (ov_lss rfl rfl rfl) <| rl_nil <| run_seq ?_
 first | refine run_cond_dec rfl (fun c1 => ?_) (fun c1 => ?_) | refine run_cond rfl (fun c1 => ?_) (fun c1 => ?_)
 ·have hcle := hP.le
  refine run_skip <| run_seq <| run_block <| run_seq <| run_region <| rl_v rfl rfl rfl (ov_move rfl rfl) <| rl_v rfl rfl rfl (ov_index rfl Tryz.underlying24 (by kernel_rfl) (s := 3) rfl rfl ⟨by omega, by omega⟩ (by exact hla (by omega))) ?_
  refine rl_v rfl rfl rfl (ov_loadE rfl Tryz.underlying28 rfl (by kernel_rfl) rfl ⟨by omega, by omega⟩ rfl ((hlr _ hO1.below))) ?_
  refine rl_ow rfl (ow_alloc _ rfl rfl rfl zero_28 rfl hO1) ?_
  rintro _ w9 ⟨x14, rfl, hO10, hs11⟩
  refine rl_v rfl rfl rfl (ov_assign rfl rfl) <| rl_ow rfl (ow_storeW rfl rfl (by kernel_rfl) hO10 0 rfl rfl (by rfl) rfl (by rfl)) ?_
  rintro _ w12 ⟨rfl, hO13, hs14⟩
  have hO2 : Own B w0 w12 (some (lch x14 28 (bdF N n v i)) :: cb :: some (lch b7 3 [iv sd]) :: some (lch b6 24 [.slice la (N + 1) lc]) :: some (vch fb 2 (N + 1) (fun i => iv (Fi i))) :: K) := hO13
  refine rl_nil <| run_seq <| run_region <| rl_v rfl rfl rfl (ov_fieldS rfl Tryz.underlying28 rfl (fo := 0) rfl (by kernel_rfl) rfl) ?_
  refine rl_v rfl rfl rfl (ov_load rfl Tryz.underlying3 rfl rfl (by exact hO2.cellL 0 rfl (off := 0) rfl)) ?_
  refine rl_v rfl rfl rfl (ov_load rfl Tryz.underlying3 rfl rfl (by exact hO2.cellL 2 rfl (off := 0) rfl)) ?_
  refine rl_v rfl rfl rfl (ov_eql rfl rfl rfl) <| rl_v rfl rfl rfl (ov_move rfl rfl) ?_
  first | refine rl_split_dec 35 rfl (fun g1 => ?_) (fun g1 => ?_) | refine rl_split 35 rfl (fun g1 => ?_) (fun g1 => ?_)
  ·refine rl_gv rfl rfl rfl rfl rfl (ov_loadW rfl Tryz.underlying28 rfl (by kernel_rfl) rfl hO2 0 rfl) ?_
   refine rl_gv rfl rfl rfl rfl rfl (ov_move rfl rfl) ?_
   refine rl_gcall callable_72 rfl rfl rfl rfl rfl rfl rfl rfl (takes_any N n v p i _) (fun e16 w17 hp18 => ?_)
   obtain ⟨⟨b, rfl, hb⟩, hOa⟩ := hp18
   refine ⟨_, rfl, ?_⟩
   have hO19 := hO2.join hOa
   refine rl_v rfl rfl rfl (ov_pick_t rfl rfl rfl) <| rl_nil ?_
   first | refine run_cond_dec rfl (fun g2 => ?_) (fun g2 => ?_) | refine run_cond rfl (fun g2 => ?_) (fun g2 => ?_)
   ·have hpk : pkM N v p sd i := ⟨g1, hb.1 g2⟩
    refine run_region <| rl_v rfl rfl rfl (ov_move rfl rfl) <| rl_v rfl rfl rfl (ov_move rfl rfl) <| rl_ow rfl (ow_one rfl rfl rfl Tryz.underlying30 info_3 rfl hO19 rfl rfl) ?_
    rintro _ w20 ⟨b42, rfl, hO21, hs22⟩
    refine rl_ow rfl (ow_app1 rfl rfl rfl Tryz.underlying30 info_3 rfl hO21 1 hr rfl rfl rfl rfl ⟨by omega, by omega⟩) ?_
    rintro _ w23 ⟨v43, c43, rfl, hO24, hv43, hs25⟩
    refine rl_v rfl rfl rfl (ov_assign rfl rfl) <| rl_nil <| run_inBlock <| run_region <| rl_v rfl rfl rfl (ov_add rfl rfl rfl (by omega)) ?_
    refine rl_v rfl rfl rfl (ov_move rfl rfl) <| rl_nil ?_
    refine Run.use (ih8 (i + 1) (v43) (c + 1) _ ?_ ?_) (And.intro (by exact slot_int rfl (by first | omega)) (And.intro rfl (And.intro rfl (And.intro rfl (And.intro rfl (And.intro rfl (And.intro rfl (And.intro rfl (And.intro rfl (And.intro rfl trivial))))))))))
    ·first | omega | (dsimp only; omega)
    ·exact ⟨by omega, _, c43, hP.yes hpk, hv43.congr (fun x _ _ => by unfold upd; split <;> rfl), hO24.tail⟩
   ·have hnp : ¬ pkM N v p sd i := fun q => by rw [hb.2 q.2] at g2; exact Bool.noConfusion g2
    refine run_skip <| run_inBlock <| run_region <| rl_v rfl rfl rfl (ov_add rfl rfl rfl (by omega)) ?_
    refine rl_v rfl rfl rfl (ov_move rfl rfl) <| rl_nil ?_
    refine Run.use (ih8 (i + 1) (v12) (c) _ ?_ ?_) (And.intro (by exact slot_int rfl (by first | omega)) (And.intro rfl (And.intro rfl (And.intro rfl (And.intro rfl (And.intro rfl (And.intro rfl (And.intro rfl (And.intro rfl (And.intro rfl trivial))))))))))
    ·first | omega | (dsimp only; omega)
    ·exact ⟨by omega, I, cb, hP.no hnp, hr, hO19.tail⟩
  ·have hnp : ¬ pkM N v p sd i := fun q => g1 q.1
   refine rl_gskip rfl rfl rfl rfl rfl rfl <| rl_gskip rfl rfl rfl rfl rfl rfl <| rl_gskip rfl rfl rfl rfl rfl rfl <| rl_v rfl rfl rfl (ov_pick_f rfl rfl rfl) <| rl_nil <| run_cond_f rfl <| run_skip <| run_inBlock <| run_region <| rl_v rfl rfl rfl (ov_add rfl rfl rfl (by omega)) ?_
   refine rl_v rfl rfl rfl (ov_move rfl rfl) <| rl_nil ?_
   refine Run.use (ih8 (i + 1) (v12) (c) _ ?_ ?_) (And.intro (by exact slot_int rfl (by first | omega)) (And.intro rfl (And.intro rfl (And.intro rfl (And.intro rfl (And.intro rfl (And.intro rfl (And.intro rfl (And.intro rfl (And.intro rfl trivial))))))))))
   ·first | omega | (dsimp only; omega)
   ·exact ⟨by omega, I, cb, hP.no hnp, hr, hO2.tail⟩
 ·have hiN : i = N + 1 := by omega
  subst hiN
  obtain rfl := hQ.cnt c I hP
  obtain ⟨oa, ok, rfl⟩ := Row.val hr
  have hIr : ∀ x : Int, 0 ≤ x → x < c → (0 ≤ I x ∧ I x < ((N + 1 : Nat) : Int)) ∧ pkM N v p sd (I x) := fun x x0 x1 => (hP.mem (I x)).1 ⟨x, ⟨x0, x1⟩, rfl⟩
  refine run_exit rfl <| run_seq <| run_region <| rl_v rfl rfl rfl (ov_move rfl rfl) <| rl_v rfl rfl rfl (ov_func rfl rfl rfl) ?_
  refine rl_call callable_14 rfl rfl rfl rfl rfl rfl (sortStableR7_any 73 callable_73 #[ptr b7, ptr b6] (keyM N v sd) I oa ok c B cb _ w0 w7 hr hO1 (fun x => serve1_any la lc b6 b7 N n B v sd I c w0 _ x hv hl fun i a b => (hIr i a b).1) (by omega) hP.inc.inc) (fun e26 w27 hp28 => ?_)
  obtain ⟨rfl, Y, c2, hrY, hS, hO3⟩ := hp28
  refine ⟨_, rfl, ?_⟩
  obtain ⟨ob, G2, rfl, hc1, hc2, rfl, hG2⟩ := hrY.asV hm9.1
  have hYr : ∀ x : Int, 0 ≤ x → x < c → (0 ≤ Y x ∧ Y x < ((N + 1 : Nat) : Int)) ∧ pkM N v p sd (Y x) := fun x x0 x1 => by
   obtain ⟨y, hy, e⟩ := (hS.same (Y x)).1 ⟨x, ⟨x0, x1⟩, rfl⟩
   rw [← e]
   exact hIr y hy.1 hy.2
  have hYi : ∀ x y : Int, 0 ≤ x → x < y → y < c → Y x ≠ Y y := fun x y x0 xy y1 e => by
   have := hS.srt x y x0 xy y1
   rw [e] at this
   exact lex_irr this
  have hYe : ∀ i : Int, 0 ≤ i → i < ((N + 1 : Nat) : Int) → pkM N v p sd i → ∃ x : Int, (0 ≤ x ∧ x < c) ∧ Y x = i := fun i i0 i1 hi => (hS.same i).2 ((hP.mem i).2 ⟨⟨i0, i1⟩, hi⟩)
  refine rl_nil <| run_block <| Run.keep [3, 4, 5, 6, 12] (F' := [(3, _), (4, _), (5, _), (6, _), (12, _)]) rfl <| run_loop4 (fun (x : Nat) (ao : Option Addr) (cc : Nat) (z : Int) => [(12, .slice ao (c - x) cc), (3, .int .i64 z)]) [4, 5, 6] (fun (x : Nat) (ao : Option Addr) (cc : Nat) (z : Int) (w29 : World) => x ≤ c ∧ (x < c → ao = some ⟨ob, x, none⟩) ∧ c - x ≤ cc ∧ z = V - sm A x ∧ ∃ F : Int → Int, (∀ y : Int, 0 ≤ y → y < x → F (Y y) = A y) ∧ (∀ i : Int, (∀ y : Int, 0 ≤ y → y < x → Y y ≠ i) → F i = Fi i) ∧ Own B w0 w29 (some (vch ob 3 ok G2) :: some (lch b7 3 [iv sd]) :: some (lch b6 24 [.slice la (N + 1) lc]) :: some (vch fb 2 (N + 1) (fun i => iv (F i))) :: K)) (fun (x : Nat) (ao : Option Addr) (cc : Nat) (z : Int) => c - x) (0) (some ⟨ob, 0, none⟩) (ok) (V) ?_ (And.intro rfl (And.intro (by exact slot_int rfl (by first | omega)) (And.intro rfl (And.intro rfl (And.intro rfl trivial))))) ?_
  ·exact ⟨Nat.zero_le _, fun _ => rfl, hc1, by rw [show sm A ((0 : Nat) : Int) = 0 from sm_zero A]; omega, Fi, fun y a b => by omega, fun _ _ => rfl, hO3⟩
  intro x ao cc z w29 hIw29 ih30
  obtain ⟨hx, hao, hcc, hz, F, hF1, hF2, hO4⟩ := hIw29
  show Run _ _ _ _ [(12, _), (3, _), (4, _), (5, _), (6, _)] _ _
  have hzp : (x : Int) < c → 0 < z := fun hx9 => by
   have h9 := hYr x (by omega) hx9
   rw [hz]
   exact (hQ.amt (Y x) x h9.1.1 h9.1.2 h9.2 (by omega) hx9).1
  refine run_seq <| run_seq <| run_region_join 54 (.bool (decide ((x : Int) < c))) [3, 4, 5, 6, 12] (fun hk31 => ?_) ?_
  ·refine rl_v rfl rfl rfl (ov_move rfl rfl) <| rl_v rfl rfl rfl (ov_len rfl Tryz.underlying30 rfl) <| rl_v rfl rfl rfl (ov_gtr rfl rfl rfl) <| rl_v rfl rfl rfl (ov_move rfl rfl) ?_
   first | refine rl_split_dec 51 rfl (fun hg32 => ?_) (fun hg32 => ?_) | refine rl_split 51 rfl (fun hg32 => ?_) (fun hg32 => ?_)
   ·refine rl_gv rfl rfl rfl rfl rfl (ov_move rfl rfl) <| rl_gv rfl rfl rfl rfl rfl (ov_gtr rfl rfl rfl) <| rl_v rfl rfl rfl (ov_pick_t rfl rfl rfl) ?_
    refine rl_nil (hk31 _ (jbd rfl (by omega)) (And.intro rfl (And.intro rfl (And.intro rfl (And.intro rfl (And.intro rfl trivial))))))
   ·refine rl_gskip rfl rfl rfl rfl rfl rfl <| rl_gskip rfl rfl rfl rfl rfl rfl <| rl_v rfl rfl rfl (ov_pick_f rfl rfl rfl) ?_
    refine rl_nil (hk31 _ (jbf rfl (by omega)) (And.intro rfl (And.intro rfl (And.intro rfl (And.intro rfl (And.intro rfl trivial))))))
  ·show Run _ _ _ _ [(54, _), (3, _), (4, _), (5, _), (6, _), (12, _)] _ _
   first | refine run_cond_dec rfl (fun c5 => ?_) (fun c5 => ?_) | refine run_cond rfl (fun c5 => ?_) (fun c5 => ?_)
   ·obtain rfl : ao = some ⟨ob, x, none⟩ := hao (by omega)
    have hy := hYr x (by omega) c5
    have hAm := hQ.amt (Y x) x hy.1.1 hy.1.2 hy.2 (by omega) c5
    rw [← hz] at hAm
    have hqr := mkQ_rng (N := N) hn (Y x)
    have hgx : G2 ((x : Nat) : Int) = iv (Y x) := hG2 x (by omega) c5
    have hne : ∀ h9 : (x : Int) + 1 < c, mkP N v (Y ((x + 1 : Nat) : Int)) ≠ mkP N v (Y x) := fun h9 e => by
     have hy2 := hYr ((x + 1 : Nat) : Int) (by omega) (by omega)
     exact hYi x ((x + 1 : Nat) : Int) (by omega) (by omega) (by omega) (hQ.dst _ _ hy2.1.1 hy2.1.2 hy.1.1 hy.1.2 hy2.2 hy.2 e).symm
    have hz9 : z ≤ 100 := by
     rw [hz]
     have : 0 ≤ sm A x := sm_nonneg fun y y0 y1 => by
      have h9 := hYr y y0 (by omega)
      have := hQ.amt (Y y) y h9.1.1 h9.1.2 h9.2 y0 (by omega)
      have := mkQ_rng (N := N) hn (Y y)
      omega
     omega
    have hyn : (x : Int) + 1 < c → 0 ≤ Y ((x + 1 : Nat) : Int) ∧ Y ((x + 1 : Nat) : Int) < ((N + 1 : Nat) : Int) := fun h9 => (hYr _ (by omega) (by omega)).1
    refine run_skip <| run_block <| run_seq <| run_region <| rl_v rfl rfl rfl (ov_assign rfl rfl) <| rl_nil <| run_seq <| run_block <| run_once <| run_seq <| run_seq ?_
    refine run_quiet_join mixed (by kernel_rfl) 76 (.bool (decide (False))) [3, 4, 5, 6, 12, 15] (fun hk33 => ?_) (fun n34 => ?_)
    ·refine rq_v rfl rfl rfl (fun _ => ov_move rfl rfl) ?_
     refine rq_v rfl rfl rfl (fun _ => ov_move rfl rfl) ?_
     refine rq_v rfl rfl rfl (fun _ => ov_len rfl Tryz.underlying30 rfl) ?_
     refine rq_v rfl rfl rfl (fun _ => ov_lss rfl rfl rfl) ?_
     refine rq_v rfl rfl rfl (fun _ => ov_move rfl rfl) ?_
     first | refine rq_split_dec 59 rfl (fun hg35 => ?_) (fun hg35 => ?_) | refine rq_split 59 rfl (fun hg35 => ?_) (fun hg35 => ?_)
     ·refine rq_gv rfl rfl rfl rfl rfl (fun _ => ov_load rfl Tryz.underlying24 rfl rfl (by show World.cell? w29 _ = _; first | exact hO4.cellL 2 rfl (off := 0) rfl)) ?_
      refine rq_gv rfl rfl rfl rfl rfl (fun _ => ov_move rfl rfl) ?_
      refine rq_gv rfl rfl rfl rfl rfl (fun _ => ov_move rfl rfl) ?_
      refine rq_gv rfl rfl rfl rfl rfl (fun _ => ov_index1 rfl Tryz.underlying30 (by kernel_rfl) rfl rfl ⟨by omega, by omega⟩ (by rfl)) ?_
      refine rq_gv rfl rfl rfl rfl rfl (fun _ => ov_load rfl Tryz.underlying3 rfl rfl (by show World.cell? w29 _ = _; first | exact (cellAtK hO4 0 rfl (j := x + 1) (by omega) (by omega)).trans (congrArg some (hG2 ((x + 1 : Nat) : Int) (by omega) (by omega))))) ?_
      refine rq_gv rfl rfl rfl rfl rfl (fun _ => ov_index rfl Tryz.underlying24 (by kernel_rfl) (s := 3) rfl rfl ⟨by omega, by omega⟩ (by exact hla (by omega))) ?_
      refine rq_gv rfl rfl rfl rfl rfl (fun _ => ov_fieldS rfl Tryz.underlying28 rfl (fo := 1) rfl (by kernel_rfl) rfl) ?_
      refine rq_gv rfl rfl rfl rfl rfl (fun _ => ov_load rfl Tryz.underlying2 rfl rfl (by show World.cell? w29 _ = _; first | exact hlr _ hO4.below (Y ((x + 1 : Nat) : Int)) (hYr _ (by omega) (by omega)).1.1 (hYr _ (by omega) (by omega)).1.2 1 (by decide))) ?_
      refine rq_gv rfl rfl rfl rfl rfl (fun _ => ov_load rfl Tryz.underlying24 rfl rfl (by show World.cell? w29 _ = _; first | exact hO4.cellL 2 rfl (off := 0) rfl)) ?_
      refine rq_gv rfl rfl rfl rfl rfl (fun _ => ov_move rfl rfl) ?_
      refine rq_gv rfl rfl rfl rfl rfl (fun _ => ov_index1 rfl Tryz.underlying30 (by kernel_rfl) rfl rfl ⟨by omega, by omega⟩ (by rfl)) ?_
      refine rq_gv rfl rfl rfl rfl rfl (fun _ => ov_load rfl Tryz.underlying3 rfl rfl (by show World.cell? w29 _ = _; first | exact (cellAtK hO4 0 rfl (j := x) (by omega) (by omega)).trans (congrArg some hgx))) ?_
      refine rq_gv rfl rfl rfl rfl rfl (fun _ => ov_index rfl Tryz.underlying24 (by kernel_rfl) (s := 3) rfl rfl ⟨by omega, by omega⟩ (by exact hla (by omega))) ?_
      refine rq_gv rfl rfl rfl rfl rfl (fun _ => ov_fieldS rfl Tryz.underlying28 rfl (fo := 1) rfl (by kernel_rfl) rfl) ?_
      refine rq_gv rfl rfl rfl rfl rfl (fun _ => ov_load rfl Tryz.underlying2 rfl rfl (by show World.cell? w29 _ = _; first | exact hlr _ hO4.below (Y x) hy.1.1 hy.1.2 1 (by decide))) ?_
      refine rq_gv rfl rfl rfl rfl rfl (fun _ => ov_eql rfl rfl rfl) ?_
      refine rq_v rfl rfl rfl (fun _ => ov_pick_t rfl rfl rfl) ?_
      refine rq_nil (fun n => hk33 n _ (jbd rfl (by exact ⟨fun h9 => absurd h9 (hne (by omega)), False.elim⟩)) (And.intro rfl (And.intro rfl (And.intro rfl (And.intro rfl (And.intro rfl (And.intro rfl trivial)))))))
     ·refine rq_gskip rfl rfl rfl rfl rfl rfl <| rq_gskip rfl rfl rfl rfl rfl rfl <| rq_gskip rfl rfl rfl rfl rfl rfl <| rq_gskip rfl rfl rfl rfl rfl rfl <| rq_gskip rfl rfl rfl rfl rfl rfl <| rq_gskip rfl rfl rfl rfl rfl rfl <| rq_gskip rfl rfl rfl rfl rfl rfl <| rq_gskip rfl rfl rfl rfl rfl rfl <| rq_gskip rfl rfl rfl rfl rfl rfl <| rq_gskip rfl rfl rfl rfl rfl rfl <| rq_gskip rfl rfl rfl rfl rfl rfl <| rq_gskip rfl rfl rfl rfl rfl rfl <| rq_gskip rfl rfl rfl rfl rfl rfl <| rq_gskip rfl rfl rfl rfl rfl rfl <| rq_gskip rfl rfl rfl rfl rfl rfl <| rq_gskip rfl rfl rfl rfl rfl rfl <| rq_v rfl rfl rfl (fun _ => ov_pick_f rfl rfl rfl) ?_
      refine rq_nil (fun n => hk33 n _ (jbf rfl (by exact fun h9 => h9)) (And.intro rfl (And.intro rfl (And.intro rfl (And.intro rfl (And.intro rfl (And.intro rfl trivial)))))))
    ·have hO37 := hO4.drewN n34
     generalize World.drewN w29 n34 = w36 at hO37 ⊢
     show Run _ _ _ _ [(76, _), (3, _), (4, _), (5, _), (6, _), (12, _), (15, _)] _ _
     first | refine run_cond_dec rfl (fun c6 => ?_) (fun c6 => ?_) | refine run_cond rfl (fun c6 => ?_) (fun c6 => ?_)
     ·exfalso; exact c6
     ·refine run_exit rfl <| run_seq <| run_region <| rl_v rfl rfl rfl (ov_move rfl rfl) ?_
      refine rl_make (1) rfl rfl rfl rfl Tryz.underlying22 info_2 rfl hO37 rfl rfl (by rfl) (by rfl) ⟨by omega, by omega⟩ (fun wb w38 hO39 hs40 => ?_)
      refine rl_v rfl rfl rfl (ov_assign rfl rfl) <| rl_nil <| run_seq <| run_region <| rl_v rfl rfl rfl (ov_assign rfl rfl) <| rl_nil <| run_seq <| run_seq <| run_region <| rl_v rfl rfl rfl (ov_move rfl rfl) <| rl_v rfl rfl rfl (ov_move rfl rfl) <| rl_v rfl rfl rfl (ov_sliceH (1) (s := 1) rfl Tryz.underlying30 (by kernel_rfl) rfl rfl (by rfl) (by omega)) ?_
      refine rl_v rfl rfl rfl (ov_len rfl Tryz.underlying30 rfl) <| rl_v rfl rfl rfl (ov_move rfl rfl) <| rl_nil <| run_block <| run_once <| run_seq <| run_region <| rl_v rfl rfl rfl (ov_lss rfl rfl rfl) <| rl_nil <| run_seq ?_
      first | refine run_cond_dec rfl (fun q1 => ?_) (fun q1 => ?_) | refine run_cond rfl (fun q1 => ?_) (fun q1 => ?_)
      ·refine run_skip <| run_seq <| run_block <| run_seq <| run_region <| rl_v rfl rfl rfl (ov_move rfl rfl) <| rl_v rfl rfl rfl (ov_index1 rfl Tryz.underlying30 (by kernel_rfl) rfl rfl ⟨by omega, by omega⟩ (by rfl)) ?_
       refine rl_v rfl rfl rfl (ov_load rfl Tryz.underlying3 rfl rfl (by exact (cellAtK hO39 1 rfl (j := x) (by omega) (by omega)).trans (congrArg some hgx))) ?_
       refine rl_v rfl rfl rfl (ov_assign rfl rfl) <| rl_v rfl rfl rfl (ov_assign rfl rfl) <| rl_nil <| run_seq <| run_region <| rl_v rfl rfl rfl (ov_move rfl rfl) <| rl_v rfl rfl rfl (ov_move rfl rfl) <| rl_v rfl rfl rfl (ov_load rfl Tryz.underlying24 rfl rfl (by exact hO39.cellL 3 rfl (off := 0) rfl)) ?_
       refine rl_v rfl rfl rfl (ov_move rfl rfl) <| rl_v rfl rfl rfl (ov_index rfl Tryz.underlying24 (by kernel_rfl) (s := 3) rfl rfl ⟨by omega, by omega⟩ (by exact hla (by omega))) ?_
       refine rl_v rfl rfl rfl (ov_fieldS rfl Tryz.underlying28 rfl (fo := 2) rfl (by kernel_rfl) rfl) ?_
       refine rl_v rfl rfl rfl (ov_load rfl Tryz.underlying2 rfl rfl (by exact hlr _ hO39.below (Y x) hy.1.1 hy.1.2 2 (by decide))) ?_
       refine rl_v rfl rfl rfl (ov_index1 rfl Tryz.underlying22 (by kernel_rfl) rfl rfl ⟨by omega, by omega⟩ (by rfl)) ?_
       refine rl_ow rfl (ow_store rfl rfl (by kernel_rfl) hO39 0 rfl rfl ⟨by omega, by omega⟩ rfl rfl) ?_
       rintro _ w41 ⟨rfl, hO42, hs43⟩
       refine rl_nil <| run_region <| rl_v rfl rfl rfl (ov_move rfl rfl) <| rl_v rfl rfl rfl (ov_load rfl Tryz.underlying24 rfl rfl (by exact hO42.cellL 3 rfl (off := 0) rfl)) ?_
       refine rl_v rfl rfl rfl (ov_move rfl rfl) <| rl_v rfl rfl rfl (ov_index rfl Tryz.underlying24 (by kernel_rfl) (s := 3) rfl rfl ⟨by omega, by omega⟩ (by exact hla (by omega))) ?_
       refine rl_v rfl rfl rfl (ov_fieldS rfl Tryz.underlying28 rfl (fo := 2) rfl (by kernel_rfl) rfl) ?_
       refine rl_v rfl rfl rfl (ov_load rfl Tryz.underlying2 rfl rfl (by exact hlr _ hO42.below (Y x) hy.1.1 hy.1.2 2 (by decide))) ?_
       refine rl_v rfl rfl rfl (ov_add rfl rfl rfl (by omega)) ?_
       refine rl_v rfl rfl rfl (ov_assign rfl rfl) <| rl_nil <| run_inBlock <| run_region <| rl_v rfl rfl rfl (ov_add rfl rfl rfl (by omega)) ?_
       refine rl_v rfl rfl rfl (ov_move rfl rfl) <| rl_nil <| run_again <| run_seq <| run_region <| rl_v rfl rfl rfl (ov_lss rfl rfl rfl) <| rl_nil <| run_seq ?_
       first | refine run_cond_dec rfl (fun q2 => ?_) (fun q2 => ?_) | refine run_cond rfl (fun q2 => ?_) (fun q2 => ?_)
       ·exfalso; omega
       ·have hO5 : Own B w0 w41 (some (vch wb 2 1 (fun _ => iv (mkQ N n (Y x)))) :: some (vch ob 3 ok G2) :: some (lch b7 3 [iv sd]) :: some (lch b6 24 [.slice la (N + 1) lc]) :: some (vch fb 2 (N + 1) (fun i => iv (F i))) :: K) := hO42.congrI 0 rfl fun x x0 x1 => by rw [show x = 0 by omega, upd_same]; rfl
        refine run_exit rfl <| run_seq <| run_region <| rl_v rfl rfl rfl (ov_move rfl rfl) <| rl_v rfl rfl rfl (ov_move rfl rfl) <| rl_v rfl rfl rfl (ov_min rfl rfl rfl) <| rl_v rfl rfl rfl (ov_assign rfl rfl) <| rl_nil <| run_seq <| run_region <| rl_v rfl rfl rfl (ov_move rfl rfl) <| rl_v rfl rfl rfl (ov_move rfl rfl) ?_
        refine rl_call callable_74 rfl rfl rfl rfl rfl rfl (byTime1_any (some ⟨wb, 0, none⟩) 1 (min (0 + mkQ N n (Y x)) z) (mkQ N n (Y x)) _ (by omega) (by omega) (hO5.readsI 0 rfl)) (fun e44 w45 hp46 => ?_)
        obtain ⟨fb2, rfl, hOa⟩ := hp46
        refine ⟨_, rfl, ?_⟩
        have hO47 := hO5.join hOa
        refine rl_v rfl rfl rfl (ov_assign rfl rfl) <| rl_nil <| run_seq <| run_seq <| run_region <| rl_v rfl rfl rfl (ov_move rfl rfl) <| rl_v rfl rfl rfl (ov_eql rfl rfl rfl) <| rl_nil ?_
        first | refine run_cond_dec rfl (fun c7 => ?_) (fun c7 => ?_) | refine run_cond rfl (fun c7 => ?_) (fun c7 => ?_)
        ·exfalso; omega
        ·refine run_skip <| run_seq <| run_seq <| run_region <| rl_v rfl rfl rfl (ov_move rfl rfl) <| rl_v rfl rfl rfl (ov_move rfl rfl) <| rl_v rfl rfl rfl (ov_sliceH (1) (s := 1) rfl Tryz.underlying30 (by kernel_rfl) rfl rfl (by rfl) (by omega)) ?_
         refine rl_v rfl rfl rfl (ov_len rfl Tryz.underlying30 rfl) <| rl_v rfl rfl rfl (ov_move rfl rfl) <| rl_nil <| run_block <| run_once <| run_seq <| run_region <| rl_v rfl rfl rfl (ov_lss rfl rfl rfl) <| rl_nil <| run_seq ?_
         first | refine run_cond_dec rfl (fun q3 => ?_) (fun q3 => ?_) | refine run_cond rfl (fun q3 => ?_) (fun q3 => ?_)
         ·refine run_skip <| run_seq <| run_block <| run_seq <| run_region <| rl_v rfl rfl rfl (ov_move rfl rfl) <| rl_v rfl rfl rfl (ov_index1 rfl Tryz.underlying30 (by kernel_rfl) rfl rfl ⟨by omega, by omega⟩ (by rfl)) ?_
          refine rl_v rfl rfl rfl (ov_load rfl Tryz.underlying3 rfl rfl (by exact (cellAtK hO47 2 rfl (j := x) (by omega) (by omega)).trans (congrArg some hgx))) ?_
          refine rl_v rfl rfl rfl (ov_assign rfl rfl) <| rl_v rfl rfl rfl (ov_assign rfl rfl) <| rl_nil <| run_region <| rl_v rfl rfl rfl (ov_move rfl rfl) <| rl_v rfl rfl rfl (ov_move rfl rfl) <| rl_v rfl rfl rfl (ov_move rfl rfl) <| rl_v rfl rfl rfl (ov_move rfl rfl) <| rl_v rfl rfl rfl (ov_index1 rfl Tryz.underlying22 (by kernel_rfl) rfl rfl ⟨by omega, by omega⟩ (by rfl)) ?_
          refine rl_v rfl rfl rfl (ov_load rfl Tryz.underlying2 rfl rfl (by exact hO47.cellI 0 rfl 0 (by decide) (by decide))) ?_
          refine rl_v rfl rfl rfl (ov_index1 rfl Tryz.underlying22 (by kernel_rfl) rfl rfl ⟨by omega, by omega⟩ (by rfl)) ?_
          refine rl_ow rfl (ow_store rfl rfl (by kernel_rfl) hO47 5 rfl rfl ⟨by omega, by omega⟩ rfl rfl) ?_
          rintro _ w48 ⟨rfl, hO49, hs50⟩
          refine rl_nil <| run_inBlock <| run_region <| rl_v rfl rfl rfl (ov_add rfl rfl rfl (by omega)) ?_
          refine rl_v rfl rfl rfl (ov_move rfl rfl) <| rl_nil <| run_again <| run_seq <| run_region <| rl_v rfl rfl rfl (ov_lss rfl rfl rfl) <| rl_nil <| run_seq ?_
          first | refine run_cond_dec rfl (fun q4 => ?_) (fun q4 => ?_) | refine run_cond rfl (fun q4 => ?_) (fun q4 => ?_)
          ·exfalso; omega
          ·obtain ⟨ao2, hao2⟩ : ∃ ao2, ao2 = if cc = (1 : Int).toNat then some (⟨ob, x, none⟩ : Addr) else some ⟨ob, x + (1 : Int).toNat * 1, none⟩ := ⟨_, rfl⟩
           have hmm : min (mkQ N n (Y x)) (min (0 + mkQ N n (Y x)) z) = A x := by omega
           have hO6 : Own B w0 w48 (some (vch ob 3 ok G2) :: some (lch b7 3 [iv sd]) :: some (lch b6 24 [.slice la (N + 1) lc]) :: some (vch fb 2 (N + 1) (fun i => iv (upd F (Y x) (A x) i))) :: K) := (hO49.sub (.cons _ (.cons _ (List.Sublist.refl _)))).congrI 3 rfl (fun i _ _ => by
            unfold upd
            split
            ·exact congrArg iv hmm
            ·rfl)
           have hz7 : z - min (0 + mkQ N n (Y x)) z = V - sm A ((x + 1 : Nat) : Int) := by
            rw [show ((x + 1 : Nat) : Int) = (x : Int) + 1 by omega, sm_succ A (by omega)]
            omega
           have hF7 : ∀ y : Int, 0 ≤ y → y < ((x + 1 : Nat) : Int) → upd F (Y x) (A x) (Y y) = A y := fun y y0 y1 => by
            by_cases e : y = x
            ·rw [e, upd_same]
            ·rw [upd_ne _ _ (hYi y x y0 (by omega) c5)]
             exact hF1 y y0 (by omega)
           have hF8 : ∀ i : Int, (∀ y : Int, 0 ≤ y → y < ((x + 1 : Nat) : Int) → Y y ≠ i) → upd F (Y x) (A x) i = Fi i := fun i hi7 => by
            rw [upd_ne _ _ fun e => hi7 x (by omega) (by omega) e.symm]
            exact hF2 i fun y a b => hi7 y a (by omega)
           have hao7 : x + 1 < c → ao2 = some ⟨ob, x + 1, none⟩ := fun h9 => by
            rw [hao2, if_neg (by show ¬ cc = 1; omega)]
            rfl
           refine run_exit rfl <| run_seq <| run_region <| rl_v rfl rfl rfl (ov_move rfl rfl) <| rl_v rfl rfl rfl (ov_move rfl rfl) <| rl_v rfl rfl rfl (ov_sub rfl rfl rfl (by omega)) ?_
           refine rl_v rfl rfl rfl (ov_assign rfl rfl) <| rl_nil <| run_region <| rl_v rfl rfl rfl (ov_move rfl rfl) <| rl_v rfl rfl rfl (ov_move rfl rfl) <| rl_v rfl rfl rfl (ov_sliceM hao2 rfl Tryz.underlying30 (by kernel_rfl) rfl rfl ⟨by omega, by omega⟩ hcc) ?_
           refine rl_v rfl rfl rfl (ov_assign rfl rfl) <| rl_nil <| run_inBlock ?_
           refine Run.use (ih30 (x + 1) (ao2) (cc - 1) (z - min (0 + mkQ N n (Y x)) z) _ ?_ ?_) (And.intro rfl (And.intro (by exact slot_int rfl (by first | omega)) (And.intro rfl (And.intro rfl (And.intro rfl trivial)))))
           ·first | omega | (dsimp only; omega)
           ·exact ⟨by omega, hao7, by omega, hz7, upd F (Y x) (A x), hF7, hF8, hO6⟩
         ·exfalso; omega
      ·exfalso; omega
   ·have hxc : x = c := by omega
    refine run_exit rfl <| run_end Tryz.func46 (res0 Tryz.results46) ?_
    exact ⟨rfl, F, fun i i0 i1 hi => (by obtain ⟨y, hy, e⟩ := hYe i i0 i1 hi; exact ⟨y, hy, by rw [← e]; exact hF1 y hy.1 (by omega)⟩), fun i hi => hF2 i fun y a b e => hi (by rw [← e]; exact (hYr y a (by omega)).2), hO4.sub (.cons _ (.cons _ (.cons _ (List.Sublist.refl _))))⟩
end Go.Proofs.YtbcjfjldmfljgaaGreat
