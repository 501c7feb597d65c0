import Derived.Test.YtlldeifbfpmbaaaGreatFgB
set_option maxRecDepth 100000
namespace Go.Proofs.YtlldeifbfpmbaaaGreat
open Go.RowKit Go.Proofs Go.MapKept
theorem IRow.cellA {ao : Option Addr} {m cap b : Nat} {E : TypeId} {n : Nat} {G : Int → Value} {c : Option Blk} {B : Nat} {w0 w : World} {H : List (Option Blk)} (h : IRow (.slice ao m cap) E n G c) (ho : Own B w0 w H) (k : Nat) (hk : H[k]? = some c) (ha : ao = some ⟨b, 0, none⟩) {i : Int} (i0 : 0 ≤ i) (i1 : i < n) : w.cell? ⟨b, 0 + i.toNat, none⟩ = some (G i) := by
 obtain ⟨b', e, r⟩ := h.openS ho k hk
 have := e (by omega)
 rw [ha] at this
 cases this
 exact r i i0 i1
theorem tab_take {B : Nat} {w0 w : World} {v : Value} {T1 T2 : TypeId} {n : Nat} {L : Int → Nat} {F : Int → Int → Value} {H R : List (Option Blk)} {a b : Option Blk} (h : OTab v T1 T2 n L F H) (ho : Own B w0 w (a :: b :: (H ++ R))) (i : Nat) (hi : i < n) :
  ∃ (c : Option Blk) (rv : Int → Value) (ch : Nat → Option Blk), IRow v T1 n rv c ∧ (∀ r : Nat, r < n → IRow (rv r) T2 (L r) (F r) (ch r)) ∧ Own B w0 w (a :: b :: ch i :: c :: (((List.range n).erase i).map ch ++ R)) := by
 obtain ⟨c, rv, ch, rfl, h2, h3⟩ := h
 refine ⟨c, rv, ch, h2, h3, ho.perm (((?_ : List.Perm _ _).cons b).cons a)⟩
 have p := (List.perm_cons_erase (List.mem_range.2 hi)).map ch
 exact ((p.append_right R).cons c).trans (List.Perm.swap _ _ _)
theorem tab_put {B : Nat} {w0 w : World} {v x : Value} {T1 T2 : TypeId} {n m : Nat} {L : Int → Nat} {F : Int → Int → Value} {G : Int → Value} {R : List (Option Blk)} {a b y c cr : Option Blk} {rv : Int → Value} {ch : Nat → Option Blk} (i : Nat) (hi : i < n)
  (hv : IRow v T1 n (upd rv i x) c) (h3 : ∀ r : Nat, r < n → IRow (rv r) T2 (L r) (F r) (ch r)) (hx : IRow x T2 m G cr) (ho : Own B w0 w (cr :: a :: b :: y :: c :: (((List.range n).erase i).map ch ++ R))) :
  ∃ H, OTab v T1 T2 n (upd L i m) (upd F i G) H ∧ Own B w0 w (a :: b :: (H ++ R)) := by
 have ho2 := ho.sub (.cons_cons _ (.cons_cons _ (.cons_cons _ (.cons _ (.refl _)))))
 have p1 : (cr :: a :: b :: c :: (((List.range n).erase i).map ch ++ R)).Perm (cr :: c :: (((List.range n).erase i).map ch ++ (a :: b :: R))) := by
  refine List.Perm.cons _ ?_
  refine List.Perm.trans ?_ (List.perm_middle (l₁ := c :: ((List.range n).erase i).map ch)).symm
  exact ((List.perm_middle (l₁ := c :: ((List.range n).erase i).map ch)).symm).cons a
 obtain ⟨H, hT, hO⟩ := OTab.put9 i hi hv h3 hx (ho2.perm p1)
 exact ⟨H, hT, hO.perm (List.perm_middle.trans ((List.perm_middle).cons a))⟩
theorem perm_tabs {α : Type} {a b : α} {M N R : List α} : (a :: b :: (M ++ (N ++ R))).Perm (a :: b :: (N ++ (M ++ R))) := ((List.perm_append_comm_assoc M N R).cons b).cons a
theorem sub_x1 {α : Type} {a b : α} : [b].Sublist [a, b] := .cons _ (.refl _)
theorem sub_x2 {α : Type} {a b : α} {M : List α} : [b].Sublist (M ++ [a, b]) := sub_x1.trans (List.sublist_append_right _ _)
theorem sub_x3 {α : Type} {a b : α} {M N : List α} : [b].Sublist (M ++ (N ++ [a, b])) := sub_x2.trans (List.sublist_append_right _ _)
theorem updE {k : Nat} {E1 : Int → Int → Int} {E : Int → Int} : ∀ r c : Int, upd (fun r c => iv (E1 r c)) (k : Int) (fun i => iv (E i)) r c = iv (upd E1 (k : Int) E r c) := fun r c => by
 unfold upd
 split <;> rfl
structure TdL (k n N : Nat) (L : Int → Nat) (E : Int → Int → Int) : Prop where
 len : ∀ r : Int, 0 ≤ r → r < n → L r ≤ 12
 is : ∀ r : Int, 0 ≤ r → r < k → IsL (L r) (E r) N
theorem TdL.step {q n N k : Nat} {L : Int → Nat} {E : Int → Int → Int} {X : Int → Int} (h : TdL q n N L E) (hk : k ≤ 12) (hX : IsL k X N) : TdL (q + 1) n N (upd L (q : Int) k) (upd E (q : Int) X) := by
 refine ⟨fun r r0 r1 => ?_, fun r r0 r1 => ?_⟩
 ·unfold upd
  split
  ·exact hk
  ·exact h.len r r0 r1
 ·by_cases e : r = q
  ·rw [e, upd_same, upd_same]; exact hX
  ·rw [upd_ne _ _ e, upd_ne _ _ e]; exact h.is r r0 (by omega)
abbrev fairL (ga ba qa : Option Addr) (n gc m bc k qc : Nat) : List Value := [.slice ga n gc, .slice ba m bc, .slice qa k qc]
structure FOwn (f : Fair) (ga ba qa : Option Addr) (gc bc qc : Nat) (Hg Hb : List (Option Blk)) (cq : Option Blk) : Prop where
 g : OTab (.slice ga f.n gc) 23 3 f.n f.gl (fun r c => iv (f.ge r c)) Hg
 b : OTab (.slice ba f.m bc) 23 3 f.m f.bl (fun r c => iv (f.be r c)) Hb
 q : IRow (.slice qa f.m qc) 3 f.m (fun b => iv (f.q b)) cq
 ok : Valid5 f f.m
theorem TdL.valid (f : Fair) (hn : f.n ≤ 12) (hm : f.m ≤ 12) (hg : TdL f.n f.n f.m f.gl f.ge) (hb : TdL f.m f.m f.n f.bl f.be) (hq : ∀ i : Int, 0 ≤ i → i < f.m → 0 ≤ f.q i ∧ f.q i ≤ 5) : Valid5 f f.m :=
 ⟨⟨fun g k g0 g1 k0 k1 => (hg.is g g0 g1).1 k k0 k1, fun g g0 g1 => (hg.is g g0 g1).2, fun b k b0 b1 k0 k1 => (hb.is b b0 b1).1 k k0 k1, fun b b0 b1 => (hb.is b b0 b1).2, fun b b0 b1 => (hq b b0 b1).1⟩,
  ⟨by omega, by omega, fun g g0 g1 => by have := hg.len g g0 g1; omega, fun b b0 b1 => by have := hb.len b b0 b1; omega, fun b b0 b1 => by have := hq b b0 b1; omega⟩, rfl⟩
set_option maxHeartbeats 2000000 in
theorem tame5_any (ga ba qa : Option Addr) (n gc m bc nq qc G Bm : Nat) (GL BL : Int → Nat) (GE BE : Int → Int → Int) (q : Int → Int) (w : World) (hG1 : G ≤ 12) (hB1 : Bm ≤ 12)
  (hG : RTab w.heap.size w ga n GL GE) (hB : RTab w.heap.size w ba m BL BE) (hQ : IAt w.heap.size w qa nq (fun i => iv (q i))) :
  Calls Tryz.prog 8 #[.agg (fairL ga ba qa n gc m bc nq qc).toArray, iv G, iv Bm] w fun e w' => ∃ (f : Fair) (ga' ba' qa' : Option Addr) (gc' bc' qc' : Nat) (Hg Hb : List (Option Blk)) (cq : Option Blk), e = .returned (.agg (fairL ga' ba' qa' f.n gc' f.m bc' f.m qc').toArray) ∧ f.n = min n G ∧ f.m = min m Bm ∧ FOwn f ga' ba' qa' gc' bc' qc' Hg Hb cq ∧ Own w.heap.size w w' (cq :: (Hg ++ Hb)) := by
 obtain ⟨qb, qo, hqa, hqrow⟩ := hQ.open
 obtain ⟨n1, hn1⟩ : ∃ n1, n1 = min n G := ⟨_, rfl⟩
 obtain ⟨m1, hm1⟩ : ∃ m1, m1 = min m Bm := ⟨_, rfl⟩
 refine calls_of_run (F := [(0, _), (1, _), (2, _)]) Tryz.func8 rfl Tryz.ntmps8 rfl rfl ?_
 have hO0 := Own.init w
 refine run_seq <| run_region <| rl_ow rfl (ow_box _ rfl rfl rfl rfl rfl hO0) ?_
 rintro _ w1 ⟨b1, rfl, hO2, hs3⟩
 refine rl_ow rfl (ow_alloc _ rfl rfl rfl zero_25 rfl hO2) ?_
 rintro _ w4 ⟨b2, rfl, hO5, hs6⟩
 refine rl_nil <| run_seq <| Run.keep [1, 2, 3, 6] (F' := [(1, _), (2, _), (3, _), (6, _)]) rfl <| run_join1 (fun (b3 : Nat) => [(7, ptr b3)]) [3, 6] (fun (b3 : Nat) (w7 : World) => ∃ (ga1 : Option Addr) (gc1 : Nat) (ba1 : Option Addr) (bc1 : Nat) (Hg Hb : List (Option Blk)), OTab (.slice ga1 n1 gc1) 23 3 n1 (fun r => min (GL r) 12) (fun r c => iv (GE r c)) Hg ∧ OTab (.slice ba1 m1 bc1) 23 3 m1 (fun r => min (BL r) 12) (fun r c => iv (BE r c)) Hb ∧ Own w.heap.size w w7 (some (lch b3 25 (fairL ga1 ba1 none n1 gc1 m1 bc1 0 0)) :: (Hb ++ (Hg ++ [some (lch b2 25 (fairL none none none 0 0 0 0 0 0)), some (lch b1 25 (fairL ga ba qa n gc m bc nq qc))])))) (fun hk8 => ?_) ?_
 ·refine run_late (fun w' => Own w.heap.size w w' ([some (lch b1 25 (fairL ga ba qa n gc m bc nq qc))])) 10 mixed ?_
  have hO10 := hO5.drew
  generalize World.drew w4 = w9 at hO10 ⊢
  have hS11 : Own w.heap.size w w9 ([some (lch b1 25 (fairL ga ba qa n gc m bc nq qc))]) := by first | exact hO10.sub sub_x1 | exact hO10.sub sub_x2 | exact hO10.sub sub_x3 | exact hO10.sub (.cons _ sub_x1) | exact hO10.sub (.cons _ sub_x2) | exact hO10.sub (.cons _ sub_x3)
  refine rhl_v 0 rfl (by kernel_rfl) rfl rfl rfl hS11 (fun _ hS => ov_fieldS rfl Tryz.underlying25 rfl (fo := 0) rfl (by kernel_rfl) rfl) ?_
  refine rhl_v 1 rfl (by kernel_rfl) rfl rfl rfl hS11 (fun _ hS => ov_load rfl Tryz.underlying22 rfl rfl (by exact hS.cellL 0 rfl (off := 0) rfl)) ?_
  refine rhl_v 2 rfl (by kernel_rfl) rfl rfl rfl hS11 (fun _ hS => ov_move rfl rfl) ?_
  refine rhl_v 4 rfl (by kernel_rfl) rfl rfl rfl hS11 (fun _ hS => ov_fieldS rfl Tryz.underlying25 rfl (fo := 1) rfl (by kernel_rfl) rfl) ?_
  refine rhl_v 5 rfl (by kernel_rfl) rfl rfl rfl hS11 (fun _ hS => ov_load rfl Tryz.underlying22 rfl rfl (by exact hS.cellL 0 rfl (off := 1) rfl)) ?_
  refine rhl_v 6 rfl (by kernel_rfl) rfl rfl rfl hS11 (fun _ hS => ov_move rfl rfl) ?_
  refine rhl_any2 3 9 (by kernel_rfl) ?_ ?_
  ·refine rcl_op rfl rfl (ow_call2 callable_38 rfl rfl rfl rfl rfl (lists5_any ga n gc G 12 GL GE _ (by omega) (by omega) (hO10.rtab hG)) (by intro e w' hp; obtain ⟨ga1, gc1, Hg, rfl, hc1, hTg, hOw1⟩ := hp; exact ⟨_, rfl⟩)) ?_
   rintro _ w14 ⟨_, v12, he15, rfl, hp13⟩
   obtain ⟨ga1, gc1, Hg, rfl, hc1, hTg, hOw1⟩ := hp13
   injection he15 with he15; subst he15
   have hO16 := hO10.join hOw1
   have hS17 : Own w.heap.size w w14 ([some (lch b1 25 (fairL ga ba qa n gc m bc nq qc))]) := by first | exact hO16.sub sub_x1 | exact hO16.sub sub_x2 | exact hO16.sub sub_x3 | exact hO16.sub (.cons _ sub_x1) | exact hO16.sub (.cons _ sub_x2) | exact hO16.sub (.cons _ sub_x3)
   refine ⟨hS17, ?_⟩
   refine rhl_any2 7 9 (by kernel_rfl) ?_ ?_
   ·refine rcl_op rfl rfl (ow_call2 callable_38 rfl rfl rfl rfl rfl (lists5_any ba m bc Bm 12 BL BE _ (by omega) (by omega) (hO16.rtab hB)) (by intro e w' hp; obtain ⟨ba1, bc1, Hb, rfl, hc2, hTb, hOw2⟩ := hp; exact ⟨_, rfl⟩)) ?_
    rintro _ w20 ⟨_, v18, he21, rfl, hp19⟩
    obtain ⟨ba1, bc1, Hb, rfl, hc2, hTb, hOw2⟩ := hp19
    injection he21 with he21; subst he21
    have hO22 := hO16.join hOw2
    have hS23 : Own w.heap.size w w20 ([some (lch b1 25 (fairL ga ba qa n gc m bc nq qc))]) := by first | exact hO22.sub sub_x1 | exact hO22.sub sub_x2 | exact hO22.sub sub_x3 | exact hO22.sub (.cons _ sub_x1) | exact hO22.sub (.cons _ sub_x2) | exact hO22.sub (.cons _ sub_x3)
    refine ⟨hS23, ?_⟩
    refine rhl_v 8 rfl (by kernel_rfl) rfl rfl rfl hS23 (fun _ hS => ov_buildL rfl lay_25 rfl (us := [_, _, _]) rfl) ?_
    refine rhl_any1 9 (by kernel_rfl) ?_
    refine rcl_op rfl rfl (ow_alloc _ rfl rfl rfl zero_25 rfl hO22) ?_
    rintro _ w24 ⟨b3, rfl, hO25, hs26⟩
    have hS27 : Own w.heap.size w w24 ([some (lch b1 25 (fairL ga ba qa n gc m bc nq qc))]) := by first | exact hO25.sub sub_x1 | exact hO25.sub sub_x2 | exact hO25.sub sub_x3 | exact hO25.sub (.cons _ sub_x1) | exact hO25.sub (.cons _ sub_x2) | exact hO25.sub (.cons _ sub_x3)
    refine ⟨hS27, ?_⟩
    rw [← hn1] at *
    rw [← hm1] at *
    refine rhl_any1 10 (by kernel_rfl) ?_
    refine rcl_last rfl rfl (ow_storeW rfl rfl (by kernel_rfl) hO25 0 rfl rfl (by rfl) rfl (by rfl)) ?_
    rintro _ w28 ⟨rfl, hO29, hs30⟩
    refine rhl_done (by kernel_rfl) ?_
    refine Run.use (hk8 (b3) _ ?_) (And.intro rfl (And.intro rfl (And.intro rfl trivial)))
    exact ⟨ga1, gc1, ba1, bc1, Hg, Hb, hTg, hTb, hO29⟩
   ·refine rcl_op rfl rfl (ow_alloc _ rfl rfl rfl zero_25 rfl hO16) ?_
    rintro _ w31 ⟨b3, rfl, hO32, hs33⟩
    have hS34 : Own w.heap.size w w31 ([some (lch b1 25 (fairL ga ba qa n gc m bc nq qc))]) := by first | exact hO32.sub sub_x1 | exact hO32.sub sub_x2 | exact hO32.sub sub_x3 | exact hO32.sub (.cons _ sub_x1) | exact hO32.sub (.cons _ sub_x2) | exact hO32.sub (.cons _ sub_x3)
    refine ⟨hS34, ?_⟩
    refine rhl_any1 7 (by kernel_rfl) ?_
    refine rcl_op rfl rfl (ow_call2 callable_38 rfl rfl rfl rfl rfl (lists5_any ba m bc Bm 12 BL BE _ (by omega) (by omega) (hO32.rtab hB)) (by intro e w' hp; obtain ⟨ba1, bc1, Hb, rfl, hc2, hTb, hOw2⟩ := hp; exact ⟨_, rfl⟩)) ?_
    rintro _ w37 ⟨_, v35, he38, rfl, hp36⟩
    obtain ⟨ba1, bc1, Hb, rfl, hc2, hTb, hOw2⟩ := hp36
    injection he38 with he38; subst he38
    have hO39 := hO32.join hOw2
    have hOp := hO39.perm List.perm_middle
    have hS40 : Own w.heap.size w w37 ([some (lch b1 25 (fairL ga ba qa n gc m bc nq qc))]) := by first | exact hOp.sub sub_x1 | exact hOp.sub sub_x2 | exact hOp.sub sub_x3 | exact hOp.sub (.cons _ sub_x1) | exact hOp.sub (.cons _ sub_x2) | exact hOp.sub (.cons _ sub_x3)
    refine ⟨hS40, ?_⟩
    rw [← hn1] at *
    rw [← hm1] at *
    refine rhl_v 8 rfl (by kernel_rfl) rfl rfl rfl hS40 (fun _ hS => ov_buildL rfl lay_25 rfl (us := [_, _, _]) rfl) ?_
    refine rhl_any1 10 (by kernel_rfl) ?_
    refine rcl_last rfl rfl (ow_storeW rfl rfl (by kernel_rfl) hOp 0 rfl rfl (by rfl) rfl (by rfl)) ?_
    rintro _ w41 ⟨rfl, hO42, hs43⟩
    refine rhl_done (by kernel_rfl) ?_
    refine Run.use (hk8 (b3) _ ?_) (And.intro rfl (And.intro rfl (And.intro rfl trivial)))
    exact ⟨ga1, gc1, ba1, bc1, Hg, Hb, hTg, hTb, hO42⟩
  ·refine rcl_op rfl rfl (ow_alloc _ rfl rfl rfl zero_25 rfl hO10) ?_
   rintro _ w44 ⟨b3, rfl, hO45, hs46⟩
   have hS47 : Own w.heap.size w w44 ([some (lch b1 25 (fairL ga ba qa n gc m bc nq qc))]) := by first | exact hO45.sub sub_x1 | exact hO45.sub sub_x2 | exact hO45.sub sub_x3 | exact hO45.sub (.cons _ sub_x1) | exact hO45.sub (.cons _ sub_x2) | exact hO45.sub (.cons _ sub_x3)
   refine ⟨hS47, ?_⟩
   refine rhl_any1 3 (by kernel_rfl) ?_
   refine rcl_op rfl rfl (ow_call2 callable_38 rfl rfl rfl rfl rfl (lists5_any ga n gc G 12 GL GE _ (by omega) (by omega) (hO45.rtab hG)) (by intro e w' hp; obtain ⟨ga1, gc1, Hg, rfl, hc1, hTg, hOw1⟩ := hp; exact ⟨_, rfl⟩)) ?_
   rintro _ w50 ⟨_, v48, he51, rfl, hp49⟩
   obtain ⟨ga1, gc1, Hg, rfl, hc1, hTg, hOw1⟩ := hp49
   injection he51 with he51; subst he51
   have hO52 := hO45.join hOw1
   have hOp := hO52.perm List.perm_middle
   have hS53 : Own w.heap.size w w50 ([some (lch b1 25 (fairL ga ba qa n gc m bc nq qc))]) := by first | exact hOp.sub sub_x1 | exact hOp.sub sub_x2 | exact hOp.sub sub_x3 | exact hOp.sub (.cons _ sub_x1) | exact hOp.sub (.cons _ sub_x2) | exact hOp.sub (.cons _ sub_x3)
   refine ⟨hS53, ?_⟩
   refine rhl_any1 7 (by kernel_rfl) ?_
   refine rcl_op rfl rfl (ow_call2 callable_38 rfl rfl rfl rfl rfl (lists5_any ba m bc Bm 12 BL BE _ (by omega) (by omega) (hOp.rtab hB)) (by intro e w' hp; obtain ⟨ba1, bc1, Hb, rfl, hc2, hTb, hOw2⟩ := hp; exact ⟨_, rfl⟩)) ?_
   rintro _ w56 ⟨_, v54, he57, rfl, hp55⟩
   obtain ⟨ba1, bc1, Hb, rfl, hc2, hTb, hOw2⟩ := hp55
   injection he57 with he57; subst he57
   have hO58 := hOp.join hOw2
   have hOp := hO58.perm List.perm_middle
   have hS59 : Own w.heap.size w w56 ([some (lch b1 25 (fairL ga ba qa n gc m bc nq qc))]) := by first | exact hOp.sub sub_x1 | exact hOp.sub sub_x2 | exact hOp.sub sub_x3 | exact hOp.sub (.cons _ sub_x1) | exact hOp.sub (.cons _ sub_x2) | exact hOp.sub (.cons _ sub_x3)
   refine ⟨hS59, ?_⟩
   rw [← hn1] at *
   rw [← hm1] at *
   refine rhl_v 8 rfl (by kernel_rfl) rfl rfl rfl hS59 (fun _ hS => ov_buildL rfl lay_25 rfl (us := [_, _, _]) rfl) ?_
   refine rhl_any1 10 (by kernel_rfl) ?_
   refine rcl_last rfl rfl (ow_storeW rfl rfl (by kernel_rfl) hOp 0 rfl rfl (by rfl) rfl (by rfl)) ?_
   rintro _ w60 ⟨rfl, hO61, hs62⟩
   refine rhl_done (by kernel_rfl) ?_
   refine Run.use (hk8 (b3) _ ?_) (And.intro rfl (And.intro rfl (And.intro rfl trivial)))
   exact ⟨ga1, gc1, ba1, bc1, Hg, Hb, hTg, hTb, hO61⟩
 ·intro b3 w7 hJw7
  obtain ⟨ga1, gc1, ba1, bc1, Hg, Hb, hTg, hTb, hOj⟩ := hJw7
  show Run _ _ _ _ [(7, _), (3, _), (6, _)] _ _
  have hOj2 := hOj.nil_cons.swap.perm perm_tabs
  refine run_seq <| run_seq <| run_region <| rl_v rfl rfl rfl (ov_assign rfl rfl) <| rl_nil <| run_block <| Run.keep [3, 6, 7, 8] (F' := [(3, _), (6, _), (7, _), (8, _)]) rfl <| run_loop1 (fun (q1 : Nat) => [(8, .int .i64 (q1 : Int))]) [3, 6, 7] (fun (q1 : Nat) (w63 : World) => q1 ≤ n1 ∧ ∃ (L1 : Int → Nat) (E1 : Int → Int → Int) (Hg : List (Option Blk)), OTab (.slice ga1 n1 gc1) 23 3 n1 L1 (fun r c => iv (E1 r c)) Hg ∧ TdL q1 n1 m1 L1 E1 ∧ Own w.heap.size w w63 (some (lch b3 25 (fairL ga1 ba1 none n1 gc1 m1 bc1 0 0)) :: none :: (Hg ++ (Hb ++ [some (lch b2 25 (fairL none none none 0 0 0 0 0 0)), some (lch b1 25 (fairL ga ba qa n gc m bc nq qc))])))) (fun (q1 : Nat) => n1 - q1) (0) ?_ (And.intro (by exact slot_int rfl (by first | omega)) (And.intro rfl (And.intro rfl (And.intro rfl trivial)))) ?_
  ·exact ⟨Nat.zero_le _, _, _, Hg, hTg, ⟨fun r _ _ => Nat.min_le_right _ _, fun r r0 r1 => by omega⟩, hOj2⟩
  intro q1 w63 hIw63 ih64
  obtain ⟨hq1, L1, E1, Hg, hTg, hTd, hO1⟩ := hIw63
  show Run _ _ _ _ [(8, _), (3, _), (6, _), (7, _)] _ _
  refine run_seq <| run_seq <| run_region <| rl_v rfl rfl rfl (ov_move rfl rfl) <| rl_v rfl rfl rfl (ov_fieldS rfl Tryz.underlying25 rfl (fo := 0) rfl (by kernel_rfl) rfl) ?_
  refine rl_v rfl rfl rfl (ov_load rfl Tryz.underlying22 rfl rfl (by exact hO1.cellL 0 rfl (off := 0) rfl)) ?_
  refine rl_v rfl rfl rfl (ov_len rfl Tryz.underlying22 rfl) <| rl_v rfl rfl rfl (ov_lss rfl rfl rfl) <| rl_nil ?_
  first | refine run_cond_dec rfl (fun c1 => ?_) (fun c1 => ?_) | refine run_cond rfl (fun c1 => ?_) (fun c1 => ?_)
  ·have hq1' : q1 < n1 := by omega
   obtain ⟨co, rv, ch, hv, h3, hOt⟩ := tab_take hTg hO1 q1 hq1'
   obtain ⟨gb, hgb⟩ := hv.addr
   have hgb' := hgb (by omega)
   have h3q := h3 q1 hq1'
   obtain ⟨ra, rc, erv⟩ := Row.val h3q
   rw [erv] at h3q
   refine run_skip <| run_seq <| run_block <| run_late (fun w' => Own w.heap.size w w' (some (lch b3 25 (fairL ga1 ba1 none n1 gc1 m1 bc1 0 0)) :: none :: ch q1 :: co :: (((List.range n1).erase q1).map ch ++ (Hb ++ [some (lch b2 25 (fairL none none none 0 0 0 0 0 0)), some (lch b1 25 (fairL ga ba qa n gc m bc nq qc))])))) 13 mixed ?_
   have hO66 := hOt.drew
   generalize World.drew w63 = w65 at hO66 ⊢
   have hS67 : Own w.heap.size w w65 (some (lch b3 25 (fairL ga1 ba1 none n1 gc1 m1 bc1 0 0)) :: none :: ch q1 :: co :: (((List.range n1).erase q1).map ch ++ (Hb ++ [some (lch b2 25 (fairL none none none 0 0 0 0 0 0)), some (lch b1 25 (fairL ga ba qa n gc m bc nq qc))]))) := by first | exact hO66 | exact hO66.tail
   refine rhl_v 0 rfl (by kernel_rfl) rfl rfl rfl hS67 (fun _ hS => ov_fieldS rfl Tryz.underlying25 rfl (fo := 0) rfl (by kernel_rfl) rfl) ?_
   refine rhl_v 1 rfl (by kernel_rfl) rfl rfl rfl hS67 (fun _ hS => ov_load rfl Tryz.underlying22 rfl rfl (by exact hS.cellL 0 rfl (off := 0) rfl)) ?_
   refine rhl_v 2 rfl (by kernel_rfl) rfl rfl rfl hS67 (fun _ hS => ov_move rfl rfl) ?_
   refine rhl_v 3 rfl (by kernel_rfl) rfl rfl rfl hS67 (fun _ hS => ov_fieldS rfl Tryz.underlying25 rfl (fo := 0) rfl (by kernel_rfl) rfl) ?_
   refine rhl_v 4 rfl (by kernel_rfl) rfl rfl rfl hS67 (fun _ hS => ov_load rfl Tryz.underlying22 rfl rfl (by exact hS.cellL 0 rfl (off := 0) rfl)) ?_
   refine rhl_v 5 rfl (by kernel_rfl) rfl rfl rfl hS67 (fun _ hS => ov_move rfl rfl) ?_
   refine rhl_v 6 rfl (by kernel_rfl) rfl rfl rfl hS67 (fun _ hS => ov_index1 rfl Tryz.underlying22 (by kernel_rfl) rfl rfl ⟨by omega, by omega⟩ (by exact (id hgb'))) ?_
   refine rhl_v 7 rfl (by kernel_rfl) rfl rfl rfl hS67 (fun _ hS => ov_load rfl Tryz.underlying23 rfl rfl (by exact (IRow.cellA hv hS 3 rfl hgb' (i := q1) (by omega) (by omega)).trans (congrArg some erv))) ?_
   refine rhl_v 8 rfl (by kernel_rfl) rfl rfl rfl hS67 (fun _ hS => ov_fieldS rfl Tryz.underlying25 rfl (fo := 1) rfl (by kernel_rfl) rfl) ?_
   refine rhl_v 9 rfl (by kernel_rfl) rfl rfl rfl hS67 (fun _ hS => ov_load rfl Tryz.underlying22 rfl rfl (by exact hS.cellL 0 rfl (off := 1) rfl)) ?_
   refine rhl_v 10 rfl (by kernel_rfl) rfl rfl rfl hS67 (fun _ hS => ov_len rfl Tryz.underlying22 rfl) ?_
   refine rhl_any1 11 (by kernel_rfl) ?_
   refine rcl_op rfl rfl (ow_call2 callable_39 rfl rfl rfl rfl rfl (tidy5_any ra (L1 q1) rc m1 (E1 q1) _ (by have := hTd.len q1 (by omega) (by omega); omega) (by omega) (h3q.reads hO66 2 rfl)) (by intro e w' hp; obtain ⟨v5, k5, X5, c5, rfl, hk5, hX5, hr5, hO5⟩ := hp; exact ⟨_, rfl⟩)) ?_
   rintro _ w70 ⟨_, v68, he71, rfl, hp69⟩
   obtain ⟨v5, k5, X5, c5, rfl, hk5, hX5, hr5, hO5⟩ := hp69
   injection he71 with he71; subst he71
   have hO72 := hO66.join hO5
   have hS73 : Own w.heap.size w w70 (some (lch b3 25 (fairL ga1 ba1 none n1 gc1 m1 bc1 0 0)) :: none :: ch q1 :: co :: (((List.range n1).erase q1).map ch ++ (Hb ++ [some (lch b2 25 (fairL none none none 0 0 0 0 0 0)), some (lch b1 25 (fairL ga ba qa n gc m bc nq qc))]))) := by first | exact hO72 | exact hO72.tail
   refine ⟨hS73, ?_⟩
   obtain ⟨a5, cp5, rfl⟩ := Row.val hr5
   refine rhl_v 12 rfl (by kernel_rfl) rfl rfl rfl hS73 (fun _ hS => ov_index1 rfl Tryz.underlying22 (by kernel_rfl) rfl rfl ⟨by omega, by omega⟩ (by exact (id hgb'))) ?_
   refine rhl_any1 13 (by kernel_rfl) ?_
   refine rcl_last rfl rfl (ow_storeI1 rfl rfl (by kernel_rfl) hO72 4 hv rfl hgb rfl ⟨by omega, by omega⟩ rfl rfl) ?_
   rintro _ w74 ⟨c9, rfl, hO75, hv9, hs76⟩
   obtain ⟨Hg2, hTg2, hO9⟩ := tab_put (L := L1) (F := fun r c => iv (E1 r c)) q1 hq1' hv9 h3 hr5 hO75
   refine rhl_done (by kernel_rfl) ?_
   refine run_inBlock <| run_region <| rl_v rfl rfl rfl (ov_move rfl rfl) <| rl_v rfl rfl rfl (ov_add rfl rfl rfl (by omega)) ?_
   refine rl_v rfl rfl rfl (ov_assign rfl rfl) <| rl_nil ?_
   refine Run.use (ih64 (q1 + 1) _ ?_ ?_) (And.intro (by exact slot_int rfl (by first | omega)) (And.intro rfl (And.intro rfl (And.intro rfl trivial))))
   ·first | omega | (dsimp only; omega)
   ·exact ⟨by omega, _, _, Hg2, hTg2.congr (fun r c _ _ _ _ => updE r c), hTd.step (by have := hTd.len q1 (by omega) (by omega); omega) hX5, hO9⟩
  ·obtain rfl : q1 = n1 := by omega
   have hOj3 := hO1.perm perm_tabs
   refine run_exit rfl <| run_seq <| run_seq <| run_region <| rl_v rfl rfl rfl (ov_assign rfl rfl) <| rl_nil <| run_block <| Run.keep [3, 6, 7, 9] (F' := [(3, _), (6, _), (7, _), (9, _)]) rfl <| run_loop1 (fun (q2 : Nat) => [(9, .int .i64 (q2 : Int))]) [3, 6, 7] (fun (q2 : Nat) (w77 : World) => q2 ≤ m1 ∧ ∃ (va : Option Addr) (vc : Nat) (cq : Option Blk) (Q : Int → Int), IRow (.slice va q2 vc) 3 q2 (fun i => iv (Q i)) cq ∧ (∀ i : Int, 0 ≤ i → i < q2 → 0 ≤ Q i ∧ Q i ≤ 5) ∧ ∃ (L2 : Int → Nat) (E2 : Int → Int → Int) (Hb : List (Option Blk)), OTab (.slice ba1 m1 bc1) 23 3 m1 L2 (fun r c => iv (E2 r c)) Hb ∧ TdL q2 m1 q1 L2 E2 ∧ Own w.heap.size w w77 (some (lch b3 25 (fairL ga1 ba1 va q1 gc1 m1 bc1 q2 vc)) :: cq :: (Hb ++ (Hg ++ [some (lch b2 25 (fairL none none none 0 0 0 0 0 0)), some (lch b1 25 (fairL ga ba qa n gc m bc nq qc))])))) (fun (q2 : Nat) => m1 - q2) (0) ?_ (And.intro (by exact slot_int rfl (by first | omega)) (And.intro rfl (And.intro rfl (And.intro rfl trivial)))) ?_
   ·exact ⟨Nat.zero_le _, none, 0, none, fun _ => 0, IRow.nil _ _, fun i i0 i1 => by omega, _, _, Hb, hTb, ⟨fun r _ _ => Nat.min_le_right _ _, fun r r0 r1 => by omega⟩, hOj3⟩
   intro q2 w77 hIw77 ih78
   obtain ⟨hq2, va, vc, cq, Q, hrQ, hQr, L2, E2, Hb, hTb, hTd2, hO2⟩ := hIw77
   show Run _ _ _ _ [(9, _), (3, _), (6, _), (7, _)] _ _
   refine run_seq <| run_seq <| run_region <| rl_v rfl rfl rfl (ov_move rfl rfl) <| rl_v rfl rfl rfl (ov_fieldS rfl Tryz.underlying25 rfl (fo := 1) rfl (by kernel_rfl) rfl) ?_
   refine rl_v rfl rfl rfl (ov_load rfl Tryz.underlying22 rfl rfl (by exact hO2.cellL 0 rfl (off := 1) rfl)) ?_
   refine rl_v rfl rfl rfl (ov_len rfl Tryz.underlying22 rfl) <| rl_v rfl rfl rfl (ov_lss rfl rfl rfl) <| rl_nil ?_
   first | refine run_cond_dec rfl (fun c2 => ?_) (fun c2 => ?_) | refine run_cond rfl (fun c2 => ?_) (fun c2 => ?_)
   ·have hq2' : q2 < m1 := by omega
    obtain ⟨co, rv, ch, hv, h3, hOt⟩ := tab_take hTb hO2 q2 hq2'
    obtain ⟨gb, hgb⟩ := hv.addr
    have hgb' := hgb (by omega)
    have h3q := h3 q2 hq2'
    obtain ⟨ra, rc, erv⟩ := Row.val h3q
    rw [erv] at h3q
    refine run_skip <| run_seq <| run_block <| run_seq <| run_late (fun w' => Own w.heap.size w w' (some (lch b3 25 (fairL ga1 ba1 va q1 gc1 m1 bc1 q2 vc)) :: cq :: ch q2 :: co :: (((List.range m1).erase q2).map ch ++ (Hg ++ [some (lch b2 25 (fairL none none none 0 0 0 0 0 0)), some (lch b1 25 (fairL ga ba qa n gc m bc nq qc))])))) 13 mixed ?_
    have hO80 := hOt.drew
    generalize World.drew w77 = w79 at hO80 ⊢
    have hS81 : Own w.heap.size w w79 (some (lch b3 25 (fairL ga1 ba1 va q1 gc1 m1 bc1 q2 vc)) :: cq :: ch q2 :: co :: (((List.range m1).erase q2).map ch ++ (Hg ++ [some (lch b2 25 (fairL none none none 0 0 0 0 0 0)), some (lch b1 25 (fairL ga ba qa n gc m bc nq qc))]))) := by first | exact hO80 | exact hO80.tail
    refine rhl_v 0 rfl (by kernel_rfl) rfl rfl rfl hS81 (fun _ hS => ov_fieldS rfl Tryz.underlying25 rfl (fo := 1) rfl (by kernel_rfl) rfl) ?_
    refine rhl_v 1 rfl (by kernel_rfl) rfl rfl rfl hS81 (fun _ hS => ov_load rfl Tryz.underlying22 rfl rfl (by exact hS.cellL 0 rfl (off := 1) rfl)) ?_
    refine rhl_v 2 rfl (by kernel_rfl) rfl rfl rfl hS81 (fun _ hS => ov_move rfl rfl) ?_
    refine rhl_v 3 rfl (by kernel_rfl) rfl rfl rfl hS81 (fun _ hS => ov_fieldS rfl Tryz.underlying25 rfl (fo := 1) rfl (by kernel_rfl) rfl) ?_
    refine rhl_v 4 rfl (by kernel_rfl) rfl rfl rfl hS81 (fun _ hS => ov_load rfl Tryz.underlying22 rfl rfl (by exact hS.cellL 0 rfl (off := 1) rfl)) ?_
    refine rhl_v 5 rfl (by kernel_rfl) rfl rfl rfl hS81 (fun _ hS => ov_move rfl rfl) ?_
    refine rhl_v 6 rfl (by kernel_rfl) rfl rfl rfl hS81 (fun _ hS => ov_index1 rfl Tryz.underlying22 (by kernel_rfl) rfl rfl ⟨by omega, by omega⟩ (by exact (id hgb'))) ?_
    refine rhl_v 7 rfl (by kernel_rfl) rfl rfl rfl hS81 (fun _ hS => ov_load rfl Tryz.underlying23 rfl rfl (by exact (IRow.cellA hv hS 3 rfl hgb' (i := q2) (by omega) (by omega)).trans (congrArg some erv))) ?_
    refine rhl_v 8 rfl (by kernel_rfl) rfl rfl rfl hS81 (fun _ hS => ov_fieldS rfl Tryz.underlying25 rfl (fo := 0) rfl (by kernel_rfl) rfl) ?_
    refine rhl_v 9 rfl (by kernel_rfl) rfl rfl rfl hS81 (fun _ hS => ov_load rfl Tryz.underlying22 rfl rfl (by exact hS.cellL 0 rfl (off := 0) rfl)) ?_
    refine rhl_v 10 rfl (by kernel_rfl) rfl rfl rfl hS81 (fun _ hS => ov_len rfl Tryz.underlying22 rfl) ?_
    refine rhl_any1 11 (by kernel_rfl) ?_
    refine rcl_op rfl rfl (ow_call2 callable_39 rfl rfl rfl rfl rfl (tidy5_any ra (L2 q2) rc q1 (E2 q2) _ (by have := hTd2.len q2 (by omega) (by omega); omega) (by omega) (h3q.reads hO80 2 rfl)) (by intro e w' hp; obtain ⟨v5, k5, X5, c5, rfl, hk5, hX5, hr5, hO5⟩ := hp; exact ⟨_, rfl⟩)) ?_
    rintro _ w84 ⟨_, v82, he85, rfl, hp83⟩
    obtain ⟨v5, k5, X5, c5, rfl, hk5, hX5, hr5, hO5⟩ := hp83
    injection he85 with he85; subst he85
    have hO86 := hO80.join hO5
    have hS87 : Own w.heap.size w w84 (some (lch b3 25 (fairL ga1 ba1 va q1 gc1 m1 bc1 q2 vc)) :: cq :: ch q2 :: co :: (((List.range m1).erase q2).map ch ++ (Hg ++ [some (lch b2 25 (fairL none none none 0 0 0 0 0 0)), some (lch b1 25 (fairL ga ba qa n gc m bc nq qc))]))) := by first | exact hO86 | exact hO86.tail
    refine ⟨hS87, ?_⟩
    obtain ⟨a5, cp5, rfl⟩ := Row.val hr5
    refine rhl_v 12 rfl (by kernel_rfl) rfl rfl rfl hS87 (fun _ hS => ov_index1 rfl Tryz.underlying22 (by kernel_rfl) rfl rfl ⟨by omega, by omega⟩ (by exact (id hgb'))) ?_
    refine rhl_any1 13 (by kernel_rfl) ?_
    refine rcl_last rfl rfl (ow_storeI1 rfl rfl (by kernel_rfl) hO86 4 hv rfl hgb rfl ⟨by omega, by omega⟩ rfl rfl) ?_
    rintro _ w88 ⟨c9, rfl, hO89, hv9, hs90⟩
    obtain ⟨Hb2, hTb2, hO9⟩ := tab_put (L := L2) (F := fun r c => iv (E2 r c)) q2 hq2' hv9 h3 hr5 hO89
    have hTb3 := hTb2.congr (fun r c _ _ _ _ => updE r c)
    have hTd3 := hTd2.step (by have := hTd2.len q2 (by omega) (by omega); omega) hX5
    have hlast : ((some (lch b3 25 (fairL ga1 ba1 va q1 gc1 m1 bc1 q2 vc)) :: cq :: (Hb2 ++ (Hg ++ [some (lch b2 25 (fairL none none none 0 0 0 0 0 0)), some (lch b1 25 (fairL ga ba qa n gc m bc nq qc))])))[(Hb2 ++ Hg).length + 3]? : Option (Option Blk)) = some (some (lch b1 25 (fairL ga ba qa n gc m bc nq qc))) := by
     rw [← List.append_assoc, List.getElem?_cons_succ, List.getElem?_cons_succ, List.getElem?_append_right (by omega), show (Hb2 ++ Hg).length + 1 - (Hb2 ++ Hg).length = 1 by omega]
     rfl
    refine rhl_done (by kernel_rfl) ?_
    refine run_seq <| run_region <| rl_v rfl rfl rfl (ov_assign rfl rfl) <| rl_nil <| run_seq <| run_seq <| run_region <| rl_v rfl rfl rfl (ov_move rfl rfl) <| rl_v rfl rfl rfl (ov_fieldS rfl Tryz.underlying25 rfl (fo := 2) rfl (by kernel_rfl) rfl) ?_
    refine rl_v rfl rfl rfl (ov_load rfl Tryz.underlying23 rfl rfl (by exact hO9.cellL ((Hb2 ++ Hg).length + 3) hlast (off := 2) rfl)) ?_
    refine rl_v rfl rfl rfl (ov_len rfl Tryz.underlying23 rfl) <| rl_v rfl rfl rfl (ov_lss rfl rfl rfl) <| rl_nil <| Run.keep [3, 6, 7, 9, 10, 64] (F' := [(3, _), (6, _), (7, _), (9, _), (10, _), (64, _)]) rfl <| run_join1 (fun (x : Int) => [(10, .int .i64 x)]) [3, 6, 7, 9] (fun (x : Int) (w91 : World) => (0 ≤ x ∧ x ≤ 5) ∧ Own w.heap.size w w91 (some (lch b3 25 (fairL ga1 ba1 va q1 gc1 m1 bc1 q2 vc)) :: cq :: (Hb2 ++ (Hg ++ [some (lch b2 25 (fairL none none none 0 0 0 0 0 0)), some (lch b1 25 (fairL ga ba qa n gc m bc nq qc))])))) (fun hk92 => ?_) ?_
    ·first | refine run_cond_dec rfl (fun c3 => ?_) (fun c3 => ?_) | refine run_cond rfl (fun c3 => ?_) (fun c3 => ?_)
     ·refine run_seq <| run_region <| rl_v rfl rfl rfl (ov_fieldS rfl Tryz.underlying25 rfl (fo := 2) rfl (by kernel_rfl) rfl) ?_
      refine rl_v rfl rfl rfl (ov_load rfl Tryz.underlying23 rfl rfl (by exact hO9.cellL ((Hb2 ++ Hg).length + 3) hlast (off := 2) rfl)) ?_
      refine rl_v rfl rfl rfl (ov_move rfl rfl) <| rl_v rfl rfl rfl (ov_index1 rfl Tryz.underlying23 (by kernel_rfl) rfl rfl ⟨by omega, by omega⟩ (by exact hqa (by omega))) ?_
      refine rl_v rfl rfl rfl (ov_load rfl Tryz.underlying3 rfl rfl (by exact hqrow _ hO9.below (q2 : Int) (by omega) (by omega))) ?_
      refine rl_v rfl rfl rfl (ov_assign rfl rfl) <| rl_nil <| run_seq <| run_region_join 75 (.bool (decide (q q2 < 0 ∨ 5 < q q2))) [3, 6, 7, 9, 10] (fun hk93 => ?_) ?_
      ·refine rl_v rfl rfl rfl (ov_move rfl rfl) <| rl_v rfl rfl rfl (ov_lss rfl rfl rfl) <| rl_v rfl rfl rfl (ov_move rfl rfl) ?_
       first | refine rl_split_dec 72 rfl (fun hg94 => ?_) (fun hg94 => ?_) | refine rl_split 72 rfl (fun hg94 => ?_) (fun hg94 => ?_)
       ·refine rl_gskip rfl rfl rfl rfl rfl rfl <| rl_gskip rfl rfl rfl rfl rfl rfl <| rl_v rfl rfl rfl (ov_pick_t rfl rfl rfl) ?_
        refine rl_nil (hk93 _ (jbt rfl (by omega)) (And.intro rfl (And.intro rfl (And.intro rfl (And.intro rfl (And.intro rfl trivial))))))
       ·refine rl_gv rfl rfl rfl rfl rfl (ov_move rfl rfl) <| rl_gv rfl rfl rfl rfl rfl (ov_gtr rfl rfl rfl) <| rl_v rfl rfl rfl (ov_pick_f rfl rfl rfl) ?_
        refine rl_nil (hk93 _ (jbd rfl (by omega)) (And.intro rfl (And.intro rfl (And.intro rfl (And.intro rfl (And.intro rfl trivial))))))
      ·show Run _ _ _ _ [(75, _), (3, _), (6, _), (7, _), (9, _), (10, _)] _ _
       first | refine run_cond_dec rfl (fun c4 => ?_) (fun c4 => ?_) | refine run_cond rfl (fun c4 => ?_) (fun c4 => ?_)
       ·have hx1 : 0 ≤ IntKind.u64.wrap (q q2) % 4 ∧ IntKind.u64.wrap (q q2) % 4 < 4 := ⟨Int.emod_nonneg _ (by decide), Int.emod_lt_of_pos _ (by decide)⟩
        have hx2 : IntKind.i64.wrap (IntKind.u64.wrap (q q2) % 4) = IntKind.u64.wrap (q q2) % 4 := IntWalk.i64_in _ (by omega)
        refine run_region <| rl_v rfl rfl rfl (ov_move rfl rfl) <| rl_v rfl rfl rfl (ov_conv rfl Tryz.underlying3 Tryz.underlying49 rfl) <| rl_v rfl rfl rfl (ov_rem rfl rfl rfl (u64_nn5 _) (by omega)) ?_
        refine rl_v rfl rfl rfl (ov_conv rfl Tryz.underlying49 Tryz.underlying3 rfl) <| rl_v rfl rfl rfl (ov_assign rfl rfl) <| rl_nil ?_
        refine Run.use (hk92 (IntKind.i64.wrap (IntKind.u64.wrap (q q2) % 4)) _ ?_) (And.intro (by exact slot_int rfl (by first | omega)) (And.intro rfl (And.intro rfl (And.intro rfl (And.intro rfl trivial)))))
        exact ⟨by rw [hx2]; omega, hO9⟩
       ·refine run_skip ?_
        refine Run.use (hk92 (q q2) _ ?_) (And.intro (by exact slot_int rfl (by first | omega)) (And.intro rfl (And.intro rfl (And.intro rfl (And.intro rfl trivial)))))
        exact ⟨by omega, hO9⟩
     ·refine run_skip ?_
      refine Run.use (hk92 (1) _ ?_) (And.intro (by exact slot_int rfl (by first | omega)) (And.intro rfl (And.intro rfl (And.intro rfl (And.intro rfl trivial)))))
      exact ⟨by omega, hO9⟩
    ·intro x w91 hJw91
     obtain ⟨hx, hO6⟩ := hJw91
     show Run _ _ _ _ [(10, _), (3, _), (6, _), (7, _), (9, _)] _ _
     refine run_region <| rl_v rfl rfl rfl (ov_fieldS rfl Tryz.underlying25 rfl (fo := 2) rfl (by kernel_rfl) rfl) ?_
     refine rl_v rfl rfl rfl (ov_load rfl Tryz.underlying23 rfl rfl (by exact hO6.cellL 0 rfl (off := 2) rfl)) ?_
     refine rl_v rfl rfl rfl (ov_move rfl rfl) ?_
     refine rl_appI rfl rfl rfl rfl rfl rfl rfl rfl Tryz.underlying23 info_3 rfl hO6 1 hrQ rfl rfl rfl ⟨by omega, by omega⟩ (fun v84 c84 w95 hO96 hr84 hs97 => ?_)
     obtain ⟨a84, cp84, rfl⟩ := Row.val hr84
     refine rl_v rfl rfl rfl (ov_fieldS rfl Tryz.underlying25 rfl (fo := 2) rfl (by kernel_rfl) rfl) ?_
     refine rl_ow rfl (ow_storeL rfl rfl (by kernel_rfl) hO96 0 rfl rfl rfl rfl rfl) ?_
     rintro _ w98 ⟨rfl, hO99, hs100⟩
     refine rl_nil <| run_inBlock <| run_region <| rl_v rfl rfl rfl (ov_move rfl rfl) <| rl_v rfl rfl rfl (ov_add rfl rfl rfl (by omega)) ?_
     refine rl_v rfl rfl rfl (ov_assign rfl rfl) <| rl_nil ?_
     refine Run.use (ih78 (q2 + 1) _ ?_ ?_) (And.intro (by exact slot_int rfl (by first | omega)) (And.intro rfl (And.intro rfl (And.intro rfl trivial))))
     ·first | omega | (dsimp only; omega)
     ·exact ⟨by omega, a84, cp84, c84, upd Q q2 x, hr84.congr (fun j _ _ => by unfold upd; split <;> rfl), fun i i0 i1 => (by unfold upd; split; exact hx; exact hQr i i0 (by omega)), _, _, Hb2, hTb3, hTd3, hO99⟩
   ·obtain rfl : q2 = m1 := by omega
    have hOf := hO2.perm (((perm_mid2 (some (lch b2 25 (fairL none none none 0 0 0 0 0 0))) Hb Hg [some (lch b1 25 (fairL ga ba qa n gc m bc nq qc))]).symm.cons cq).cons _)
    refine run_exit rfl <| run_seq <| run_region <| rl_v rfl rfl rfl (ov_loadW rfl Tryz.underlying25 rfl (by kernel_rfl) rfl hOf 0 rfl) ?_
    refine rl_ow rfl (ow_storeW rfl rfl (by kernel_rfl) hOf 2 rfl rfl (by rfl) rfl (by rfl)) ?_
    rintro _ w101 ⟨rfl, hO102, hs103⟩
    have hOg := hO102.sub (.cons _ (.cons_cons _ (.cons _ ((List.sublist_append_left Hg _).append_left Hb))))
    refine rl_nil <| run_ret Tryz.func8 (resW Tryz.results8 rfl Tryz.underlying25 rfl (by kernel_rfl) hO102 2 rfl) ?_
    exact ⟨⟨q1, q2, L1, E1, L2, E2, Q⟩, ga1, ba1, va, gc1, bc1, vc, Hg, Hb, cq, rfl, hn1, hm1, ⟨hTg, hTb, hrQ, TdL.valid ⟨q1, q2, L1, E1, L2, E2, Q⟩ (by show q1 ≤ 12; omega) (by show q2 ≤ 12; omega) hTd hTd2 hQr⟩, hOg.perm (List.perm_append_comm.cons _)⟩
end Go.Proofs.YtlldeifbfpmbaaaGreat
