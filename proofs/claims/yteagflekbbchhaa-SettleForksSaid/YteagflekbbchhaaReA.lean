import Derived.Test.YteagflekbbchhaaSfP
set_option maxRecDepth 100000
namespace Go.Proofs.Yteagflekbbchhaa
open Go.RowKit Go.Proofs
section
variable {P : Program} {f N : Nat} {k : List Item} {F : Fr} {w : World} {R : Ending → World → Prop} {o : Oper} {B : Nat} {w0 : World} {H : List (Option Blk)}
theorem run_once {c : Code} (h : Run P f N (.code c :: .inLoop c :: k) F w R) : Run P f N (.code (.loop c) :: k) F w R := fun a ha => RunA.of_step (fun _ => .one step_loop) (h a ha)
theorem run_again {c : Code} (h : Run P f N (.code c :: .inLoop c :: k) F w R) : Run P f N (.inLoop c :: k) F w R := fun a ha => RunA.of_step (fun _ => .one step_inLoop) (h a ha)
theorem ow_storeS {T E : TypeId} {p x : Operand} {b n cap kk s : Nat} {G : Int → List Value} {c : Option Blk} {ao : Option Addr} {i : Int} {us : List Value} (hd : o.dst = none) (ho : o.op = .store T p x) (hi : (P.info? T).map (·.size) = some us.length)
  (hO : Own B w0 w H) (hr : SRow (.slice ao n cap) E s n G c) (hk : H[kk]? = some c) (hao : 0 < n → ao = some ⟨b, 0, none⟩) (hp : Fr.ev F p = some (.pointer (some ⟨b, 0 + i.toNat * s, none⟩))) (hb : 0 ≤ i ∧ i < n) (hl : us.length = s)
  (hx : Fr.ev F x = some (.agg us.toArray)) (h1 : us.all (·.oneCell') = true) :
  OpW P N o F w (fun F' w' => ∃ c', F' = F ∧ Own B w0 w' (H.set kk c') ∧ SRow (.slice ao n cap) E s n (upd G i us) c' ∧ w'.heap.size = w.heap.size) := by
 rcases hr with ⟨h, rfl, rfl⟩ | ⟨b', cap', g, h, h2, h3, rfl, h5⟩
 ·omega
 cases h
 have := hao (by omega)
 simp only [Option.some.injEq, Addr.mk.injEq] at this
 obtain rfl := this.1
 have hin : i.toNat < n := by omega
 have hfit : i.toNat * s + s ≤ cap * s := by
  have := Nat.mul_le_mul_right s (show i.toNat + 1 ≤ cap by omega)
  rw [Nat.add_mul] at this; omega
 refine (ow_u (w' := w.setCells b' (0 + i.toNat * s) us) hd (fun a ha => ?_)).mono fun F' w' ⟨e1, e2⟩ => ⟨some ⟨b', E, cap * s, fun j => if 0 + i.toNat * s ≤ j ∧ j < 0 + i.toNat * s + us.length then us.getD (j - (0 + i.toNat * s)) undef else g j, none⟩, e1, by rw [e2]; exact hO.storeN us kk hk (0 + i.toNat * s), .inr ⟨b', cap, _, rfl, h2, h3, rfl, fun j hj => ?_⟩, by rw [e2]; exact size_setCells _ _ _ _⟩
 ·have hrun := run_storeAt_mid (P := P) w b' (0 + i.toNat * s) T us.toArray (fun j hj => by
   have hj' : j < us.length := by simpa using hj
   have hlt : 0 + i.toNat * s + j < cap * s := by omega
   exact ⟨Option.isSome_iff_exists.2 ⟨_, hO.cell kk hk _ hlt⟩, (hO.get kk hk).frozen _⟩) (by simpa using hi) (by simpa using h1)
  unfold execOp
  simp only [ho, ha.ev hp, ha.ev hx, Sem.run_bind, hrun, Result.andThen_ok, Sem.run_pure]
 ·have hs : 0 < s := Nat.pos_of_ne_zero fun e => by subst e; simp at hj
  have hdm := Nat.div_add_mod j s
  rw [Nat.mul_comm] at hdm
  have hm := Nat.mod_lt j hs
  dsimp only
  by_cases e : j / s = i.toNat
  ·have e2 : ((j / s : Nat) : Int) = i := by omega
   rw [e] at hdm
   rw [e2, upd_same, if_pos (by omega), show j - (0 + i.toNat * s) = j % s by omega]
  ·have e2 : ((j / s : Nat) : Int) ≠ i := by omega
   rw [upd_ne _ _ e2, if_neg, h5 j hj]
   intro ⟨c1, c2⟩
   have q1 : i.toNat ≤ j / s := (Nat.le_div_iff_mul_le hs).2 (by omega)
   have q2 : j / s < i.toNat + 1 := Nat.div_lt_of_lt_mul (by rw [Nat.mul_comm, Nat.add_mul]; omega)
   omega
theorem ow_makeS {T E : TypeId} {l c : Operand} {z : Value} {by_ s : Nat} {k1 k2 : IntKind} {i j : Int} {d : Nat} (n : Nat) (zs : List Value) (hd : o.dst = some d) (hN : Nat.blt d N = true) (ho : o.op = .makeSlice T l c)
  (hT : P.underlying T = some (.slice E)) (hinfo : (P.info? E).map (fun i => (i.zero, i.size, i.bytes)) = some (some z, s, by_)) (hz : z.cells = zs.toArray) (hs : zs.length = s)
  (hO : Own B w0 w H) (hl : Fr.ev F l = some (.int k1 i)) (hc : Fr.ev F c = some (.int k2 j)) (hi : i = n) (hj : j = n) (hb : by_ * n ≤ 140737488355328 ∧ n ≤ 4000000000000) :
  OpW P N o F w (fun F' w' => ∃ b c', F' = (d, .slice (some ⟨b, 0, none⟩) n n) :: F ∧ Own B w0 w' (c' :: H) ∧ SRow (.slice (some ⟨b, 0, none⟩) n n) E s n (fun _ => zs) c' ∧ Below w.heap.size w w') := by
 subst hi; subst hj
 obtain ⟨q, hq, hq0, rfl, rfl⟩ := info_parts hinfo
 have hb' : (q.bytes : Int) * (n : Int) ≤ 281474976710656 := by
  have h : ((q.bytes * n : Nat) : Int) ≤ 281474976710656 := by omega
  rwa [Int.natCast_mul] at h
 have hrun := run_make (P := P) w T E q z hT hq hq0 k1 k2 n n (by omega) (Int.le_refl _) hb' (by omega)
 simp only [Int.toNat_natCast] at hrun
 refine (ow_w (v := .slice (some ⟨w.heap.size, 0, none⟩) n n) (w' := w.alloc (.cells (madeCells z.cells (n * q.size)) E)) hd hN (fun a ha => ?_)).mono fun F' w' ⟨h1, h2⟩ => ⟨w.heap.size, some ⟨w.heap.size, E, n * q.size, fun j => zs.getD (j % q.size) undef, none⟩, h1, ?_, .inr ⟨_, n, _, rfl, Nat.le_refl _, by unfold maxLen; omega, rfl, fun j _ => rfl⟩, by rw [h2]; exact (Below.refl _ _).alloc (Nat.le_refl _) _⟩
 ·unfold execOp
  simp only [ho, ha.ev hl, ha.ev hc, Sem.run_bind, hrun, Result.andThen_ok, Sem.run_pure]
 ·rw [h2]
  refine hO.alloc _ E (n * q.size) _ (size_madeCells _ _) fun j hj => ?_
  have hlt : j % zs.length < zs.length := Nat.mod_lt _ (by rw [hs]; exact Nat.pos_of_ne_zero fun e => by rw [e] at hj; simp at hj)
  simp [madeCells, hj, hz, List.getD_eq_getElem?_getD, hs]
  rw [hs] at hlt
  rw [List.getElem?_eq_getElem (by rw [hs]; exact hlt)]
  rfl
theorem resW3 {fn : Func} {t u u2 ty : Nat} {b : Nat} {t2 : TypeId} {dd : TypeDesc} {vs : List Value} {x y : Value} (hr : fn.results = #[.cell t ty, .tmp u, .tmp u2]) (hv : Fr.get F t = some (.pointer (some ⟨b, 0, none⟩))) (hx : Fr.get F u = some x) (hy : Fr.get F u2 = some y)
  (hT : P.underlying ty = some dd) (hd : dd.isRow = true) (hi : (P.info? ty).map (·.size) = some vs.length) (hO : Own B w0 w H) (k : Nat) (hk : H[k]? = some (some (lch b t2 vs))) : ∀ a, Holds N F a → (results fn a.tmps).run P w = .ok (.tuple #[.agg vs.toArray, x, y]) w := by
 intro a ha
 have h1 := ha.at_ t _ hv
 have h3 := ha.at_ u _ hx
 have h4 := ha.at_ u2 _ hy
 have h2 := run_loadVar_mid (P := P) w b 0 ty vs dd (hO.rangeL k hk) hT hd hi
 simp [results, hr, Array.getD_eq_getD_getElem?, h1, h3, h4, asAddr, h2, Result.andThen]
theorem resWW {fn : Func} {t ty u tyu : Nat} {b b2 : Nat} {t2 t3 : TypeId} {dd dd2 : TypeDesc} {vs us : List Value} (hr : fn.results = #[.cell t ty, .cell u tyu]) (hv : Fr.get F t = some (.pointer (some ⟨b, 0, none⟩))) (hx : Fr.get F u = some (.pointer (some ⟨b2, 0, none⟩)))
  (hT : P.underlying ty = some dd) (hd : dd.isRow = true) (hi : (P.info? ty).map (·.size) = some vs.length) (hT2 : P.underlying tyu = some dd2) (hd2 : dd2.isRow = true) (hi2 : (P.info? tyu).map (·.size) = some us.length) (hO : Own B w0 w H) (k j : Nat) (hk : H[k]? = some (some (lch b t2 vs))) (hj : H[j]? = some (some (lch b2 t3 us))) : ∀ a, Holds N F a → (results fn a.tmps).run P w = .ok (.tuple #[.agg vs.toArray, .agg us.toArray]) w := by
 intro a ha
 have h1 := ha.at_ t _ hv
 have h3 := ha.at_ u _ hx
 have h2 := run_loadVar_mid (P := P) w b 0 ty vs dd (hO.rangeL k hk) hT hd hi
 have h4 := run_loadVar_mid (P := P) w b2 0 tyu us dd2 (hO.rangeL j hj) hT2 hd2 hi2
 simp [results, hr, Array.getD_eq_getD_getElem?, h1, h3, asAddr, h2, h4, Result.andThen]
theorem resVW {fn : Func} {t ty u : Nat} {b : Nat} {t2 : TypeId} {dd : TypeDesc} {vs : List Value} {x : Value} (hr : fn.results = #[.tmp u, .cell t ty]) (hv : Fr.get F t = some (.pointer (some ⟨b, 0, none⟩))) (hx : Fr.get F u = some x)
  (hT : P.underlying ty = some dd) (hd : dd.isRow = true) (hi : (P.info? ty).map (·.size) = some vs.length) (hO : Own B w0 w H) (k : Nat) (hk : H[k]? = some (some (lch b t2 vs))) : ∀ a, Holds N F a → (results fn a.tmps).run P w = .ok (.tuple #[x, .agg vs.toArray]) w := by
 intro a ha
 have h1 := ha.at_ t _ hv
 have h3 := ha.at_ u _ hx
 have h2 := run_loadVar_mid (P := P) w b 0 ty vs dd (hO.rangeL k hk) hT hd hi
 simp [results, hr, Array.getD_eq_getD_getElem?, h1, h3, asAddr, h2, Result.andThen]
end
def brnt (l : Lg) : Bool := l.down && !decide (l.safe = l.recs.length)
structure RK where
 ma : Option Addr
 mc : Nat
 ga : Option Addr
 gc : Nat
 da : Option Addr
 dc : Nat
 ta : Option Addr
 tc : Nat
 ba : Option Addr
 bc : Nat
 a0 : Option Addr
 p0 : Nat
 a1 : Option Addr
 p1 : Nat
 a2 : Option Addr
 p2 : Nat
 cd : Option Blk
 ct : Option Blk
 cb : Option Blk
 c0 : Option Blk
 c1 : Option Blk
 c2 : Option Blk
def RK.M (K : RK) : List (Option Blk) := [K.cd, K.ct, K.cb, K.c0, K.c1, K.c2]
def RK.la (K : RK) (n : Int) : Option Addr := if n = 0 then K.a0 else if n = 1 then K.a1 else K.a2
def RK.lp (K : RK) (n : Int) : Nat := if n = 0 then K.p0 else if n = 1 then K.p1 else K.p2
def RK.lb (K : RK) (n : Int) : Option Blk := if n = 0 then K.c0 else if n = 1 then K.c1 else K.c2
def RK.setL (K : RK) (n : Int) (a : Option Addr) (p : Nat) (c : Option Blk) : RK := if n = 0 then { K with a0 := a, p0 := p, c0 := c } else if n = 1 then { K with a1 := a, p1 := p, c1 := c } else { K with a2 := a, p2 := p, c2 := c }
def RK.setT (K : RK) (a : Option Addr) (p : Nat) (c : Option Blk) : RK := { K with ta := a, tc := p, ct := c }
def RK.setB (K : RK) (a : Option Addr) (p : Nat) (c : Option Blk) : RK := { K with ba := a, bc := p, cb := c }
def RK.setD (K : RK) (a : Option Addr) (p : Nat) (c : Option Blk) : RK := { K with da := a, dc := p, cd := c }
def ncl (a : Option Addr) (p : Nat) (l : Lg) : List Value := [.slice a l.recs.length p, iv l.safe, .bool l.down, .bool (brnt l), iv l.fuse]
def rwl (X : MW) (K : RK) : List Value :=
 [iv X.mem, iv X.pat, .slice K.ma X.f1.length K.mc, .slice K.ga X.f2.length K.gc, .slice K.da X.deals.length K.dc, .slice K.ta X.deals.length K.tc, .slice K.ba X.bag.length K.bc,
  .slice K.a0 X.c.recs.length K.p0, iv X.c.safe, .bool X.c.down, .bool (brnt X.c), iv X.c.fuse,
  .slice K.a1 X.s1.recs.length K.p1, iv X.s1.safe, .bool X.s1.down, .bool (brnt X.s1), iv X.s1.fuse,
  .slice K.a2 X.s2.recs.length K.p2, iv X.s2.safe, .bool X.s2.down, .bool (brnt X.s2), iv X.s2.fuse]
def rwv (X : MW) (K : RK) : Value := .agg (rwl X K).toArray
def tkl (s : Ds) : List Value := [iv s.st, .bool s.h0, .bool s.h1, .bool s.h2, iv s.wt]
def tks (X : MW) (d : Int) : Ds := if X.c.down = true then Ds.z else X.kn d
def tk (X : MW) : Int → List Value := fun i => tkl (tks X (i + 1))
structure XIn (N : List (Option Blk)) (X : MW) (K : RK) : Prop where
 mv : PRow N (.slice K.ma X.f1.length K.mc) 1 X.f1.length (fun i => [iv (X.f1.getD i.toNat 0)])
 gv : PRow N (.slice K.ga X.f2.length K.gc) 1 X.f2.length (fun i => [iv (X.f2.getD i.toNat 0)])
 dv : PRow N (.slice K.da X.deals.length K.dc) 4 X.deals.length (cnt dll Dl.z X.deals)
 tv : PRow N (.slice K.ta X.deals.length K.tc) 5 X.deals.length (tk X)
 bv : PRow N (.slice K.ba X.bag.length K.bc) 4 X.bag.length (cnt msl Ms.z X.bag)
 lv : ∀ n, N3 n → PRow N (.slice (K.la n) (X.lg n).recs.length (K.lp n)) 2 (X.lg n).recs.length (cnt rcl (0, 0) (X.lg n).recs)
theorem XIn.mono {N N' : List (Option Blk)} {X : MW} {K : RK} (h : XIn N X K) (hN : ∀ x ∈ N, x ∈ N') : XIn N' X K := ⟨h.mv.mono hN, h.gv.mono hN, h.dv.mono hN, h.tv.mono hN, h.bv.mono hN, fun n hn => (h.lv n hn).mono hN⟩
structure ROk (N : List (Option Blk)) (X : MW) (K : RK) : Prop where
 mv : PRow N (.slice K.ma X.f1.length K.mc) 1 X.f1.length (fun i => [iv (X.f1.getD i.toNat 0)])
 gv : PRow N (.slice K.ga X.f2.length K.gc) 1 X.f2.length (fun i => [iv (X.f2.getD i.toNat 0)])
 dv : SRow (.slice K.da X.deals.length K.dc) 34 4 X.deals.length (cnt dll Dl.z X.deals) K.cd
 tv : SRow (.slice K.ta X.deals.length K.tc) 127 5 X.deals.length (tk X) K.ct
 bv : SRow (.slice K.ba X.bag.length K.bc) 136 4 X.bag.length (cnt msl Ms.z X.bag) K.cb
 lv : ∀ n, N3 n → SRow (.slice (K.la n) (X.lg n).recs.length (K.lp n)) 122 2 (X.lg n).recs.length (cnt rcl (0, 0) (X.lg n).recs) (K.lb n)
theorem RK.lb_mem (K : RK) {n : Int} (hn : N3 n) : K.lb n ∈ K.M := by rcases hn with rfl | rfl | rfl <;> simp [RK.lb, RK.M]
theorem ROk.xin {N : List (Option Blk)} {X : MW} {K : RK} (h : ROk N X K) : XIn (N ++ K.M) X K :=
 ⟨h.mv.mono fun _ hx => List.mem_append_left _ hx, h.gv.mono fun _ hx => List.mem_append_left _ hx, .of_row h.dv (List.mem_append_right _ (by simp [RK.M])), .of_row h.tv (List.mem_append_right _ (by simp [RK.M])), .of_row h.bv (List.mem_append_right _ (by simp [RK.M])), fun n hn => .of_row (h.lv n hn) (List.mem_append_right _ (K.lb_mem hn))⟩
def RWt (B : Nat) (w0 w : World) (v : Value) (X : MW) (N H : List (Option Blk)) : Prop := ∃ K, v = rwv X K ∧ Own B w0 w (H ++ K.M) ∧ ROk N X K
theorem RWt.of2 {B : Nat} {w0 w : World} {X : MW} {K : RK} {N H : List (Option Blk)} {a b : Option Blk} (hO : Own B w0 w (a :: b :: (H ++ K.M))) (hK : ROk N X K) : RWt B w0 w (rwv X K) X N (a :: b :: H) := ⟨K, rfl, hO, hK⟩
theorem RWt.of3 {B : Nat} {w0 w : World} {X : MW} {K : RK} {N H : List (Option Blk)} {a b c : Option Blk} (hO : Own B w0 w (a :: b :: c :: (H ++ K.M))) (hK : ROk N X K) : RWt B w0 w (rwv X K) X N (a :: b :: c :: H) := ⟨K, rfl, hO, hK⟩
theorem perm_in {α : Type} (P M H : List α) : (P ++ (M ++ H)).Perm ((P ++ H) ++ M) := by
 rw [List.append_assoc]; exact List.Perm.append_left P List.perm_append_comm
theorem rw_node (X : MW) (K : RK) {n : Int} (hn : N3 n) : ∀ j, j < 5 → (rwl X K)[0 + 7 + n.toNat * 5 + j]? = (ncl (K.la n) (K.lp n) (X.lg n))[j]? := by
 intro j hj
 match j, hj with
 | 0, _ => rcases hn with rfl | rfl | rfl <;> rfl
 | 1, _ => rcases hn with rfl | rfl | rfl <;> rfl
 | 2, _ => rcases hn with rfl | rfl | rfl <;> rfl
 | 3, _ => rcases hn with rfl | rfl | rfl <;> rfl
 | 4, _ => rcases hn with rfl | rfl | rfl <;> rfl
theorem rw_put (X : MW) (K : RK) {n : Int} (hn : N3 n) (a : Option Addr) (p : Nat) (c : Option Blk) (l : Lg) : (rwl X K).take (0 + 7 + n.toNat * 5) ++ ncl a p l ++ (rwl X K).drop (0 + 7 + n.toNat * 5 + (ncl a p l).length) = rwl (X.setLg n l) (K.setL n a p c) := by
 rcases hn with rfl | rfl | rfl <;> rfl
theorem rw_fuse (X : MW) (K : RK) {n : Int} (hn : N3 n) (v : Int) : (rwl X K).set (0 + 7 + n.toNat * 5 + 4) (iv v) = rwl (X.unfuse n v) K := by
 rcases hn with rfl | rfl | rfl <;> rfl
theorem rw_room {X : MW} {K : RK} {n : Int} (hn : N3 n) : Nat.blt (0 + 7 + n.toNat * 5 + 4) (rwl X K).length = true := by rcases hn with rfl | rfl | rfl <;> rfl
theorem rw_room5 {X : MW} {K : RK} {n : Int} (hn : N3 n) {a : Option Addr} {p : Nat} {l : Lg} : Nat.ble (0 + 7 + n.toNat * 5 + (ncl a p l).length) (rwl X K).length = true := by rcases hn with rfl | rfl | rfl <;> rfl
theorem rw_bag (X : MW) (K : RK) (m : Ms) (a : Option Addr) (p : Nat) (c : Option Blk) : (rwl X K).set 6 (.slice a (X.bag.length + 1) p) = rwl (X.send m) (K.setB a p c) := by
 have : (X.send m).bag.length = X.bag.length + 1 := by simp [MW.send]
 unfold rwl
 rw [this]; rfl
theorem ROk.sent {N : List (Option Blk)} {X : MW} {K : RK} (h : ROk N X K) {m : Ms} {a : Option Addr} {p : Nat} {c : Option Blk} (hr : SRow (.slice a (X.bag.length + 1) p) 136 4 (X.bag.length + 1) (upd (cnt msl Ms.z X.bag) X.bag.length (msl m)) c) : ROk N (X.send m) (K.setB a p c) := by
 refine ⟨h.mv, h.gv, h.dv, h.tv, ?_, h.lv⟩
 have e : (X.send m).bag.length = X.bag.length + 1 := by simp [MW.send]
 have := hr.congr fun i h0 h1 => cnt_app msl Ms.z X.bag m i h0 (by omega)
 rw [← e] at this
 exact this
theorem rsend_any (X : MW) (m : Ms) (v : Value) (B : Nat) (N H : List (Option Blk)) (w0 w : World) (hb : X.bag.length < 4000000000000) (h : RWt B w0 w v X N H) :
  Calls Try.prog 84 #[v, iv m.f, iv m.t, iv m.k, iv m.d] w fun e w' => ∃ v', e = .returned v' ∧ RWt B w0 w' v' (X.send m) N H := by
 obtain ⟨K, rfl, hO, hK⟩ := h
 have hO1 := hO.perm List.perm_append_comm
 refine calls_of_run (F := [(0, _), (1, _), (2, _), (3, _), (4, _)]) Try.func84 rfl Try.ntmps84 rfl rfl <| run_seq <| run_region <| rl_ow rfl (ow_box _ rfl rfl rfl rfl rfl hO1) ?_
 rintro _ w1 ⟨b5, rfl, hO2, hs3⟩
 refine rl_ow rfl (ow_alloc _ rfl rfl rfl zero_69 rfl hO2) ?_
 rintro _ w4 ⟨b10, rfl, hO5, hs6⟩
 refine rl_nil <| run_seq <| run_region <| rl_v rfl rfl rfl (ov_fieldS rfl Try.underlying69 rfl (fo := 6) rfl (by kernel_rfl) rfl) ?_
 refine rl_v rfl rfl rfl (ov_load rfl Try.underlying63 rfl rfl (by exact hO5.cellL 1 rfl rfl)) ?_
 refine rl_v rfl rfl rfl (ov_assign rfl rfl) <| rl_nil <| run_seq <| run_region <| rl_v rfl rfl rfl (ov_move rfl rfl) <| rl_v rfl rfl rfl (ov_move rfl rfl) <| rl_v rfl rfl rfl (ov_move rfl rfl) <| rl_v rfl rfl rfl (ov_move rfl rfl) <| rl_v rfl rfl rfl (ov_move rfl rfl) <| rl_v rfl rfl rfl (ov_buildL rfl lay_136 rfl (us := [_, _, _, _]) rfl) <| rl_ow rfl (ow_build [_] rfl rfl rfl rfl rfl Try.underlying63 info_136 (by decide) hO5 rfl rfl) ?_
 rintro _ w7 ⟨b20, rfl, hO8, hs9⟩
 refine rl_ow rfl (ow_appR1 rfl rfl rfl Try.underlying63 info_136 rfl rfl hO8 4 hK.bv rfl rfl rfl rfl rfl ⟨by omega, by omega⟩) ?_
 rintro _ w10 ⟨v21, c21, rfl, hO11, hr21, hs12⟩
 obtain ⟨a21, p21, rfl⟩ := hr21.val
 refine rl_v rfl rfl rfl (ov_assign rfl rfl) <| rl_nil <| run_seq <| run_region <| rl_v rfl rfl rfl (ov_move rfl rfl) <| rl_v rfl rfl rfl (ov_fieldS rfl Try.underlying69 rfl (fo := 6) rfl (by kernel_rfl) rfl) ?_
 refine rl_ow rfl (ow_storeL rfl rfl (by kernel_rfl) hO11 1 rfl rfl rfl rfl rfl) ?_
 rintro _ w13 ⟨rfl, hO14, hs15⟩
 refine rl_nil <| run_seq <| run_region <| rl_v rfl rfl rfl (ov_loadW rfl Try.underlying69 rfl (by kernel_rfl) rfl hO14 1 rfl) ?_
 refine rl_ow rfl (ow_storeW rfl rfl (by kernel_rfl) hO14 0 rfl rfl (by rfl) rfl (by rfl)) ?_
 rintro _ w16 ⟨rfl, hO17, hs18⟩
 refine rl_nil <| run_ret Try.func84 (resW Try.results84 rfl Try.underlying69 rfl (by kernel_rfl) hO17 0 rfl) ?_
 exact ⟨_, rfl, K.setB a21 p21 c21, congrArg (fun l => Value.agg l.toArray) (rw_bag X K m a21 p21 c21), hO17.tail.tail.perm (List.perm_append_comm (l₁ := (K.setB a21 p21 c21).M)), hK.sent hr21⟩
theorem rboth_any (X : MW) (k d : Int) (v : Value) (B : Nat) (N H : List (Option Blk)) (w0 w : World) (hb : X.bag.length + 1 < 4000000000000) (h : RWt B w0 w v X N H) :
  Calls Try.prog 81 #[v, iv k, iv d] w fun e w' => ∃ v', e = .returned v' ∧ RWt B w0 w' v' (X.both k d false false) N H := by
 obtain ⟨K, rfl, hO, hK⟩ := h
 refine calls_of_run (F := [(0, _), (1, _), (2, _)]) Try.func81 rfl Try.ntmps81 rfl rfl <| run_seq <| run_region <| rl_ow rfl (ow_box _ rfl rfl rfl rfl rfl hO) ?_
 rintro _ w1 ⟨b3, rfl, hO2, hs3⟩
 refine rl_ow rfl (ow_alloc _ rfl rfl rfl zero_69 rfl hO2) ?_
 rintro _ w4 ⟨b6, rfl, hO5, hs6⟩
 refine rl_nil <| run_seq <| run_region <| rl_v rfl rfl rfl (ov_loadW rfl Try.underlying69 rfl (by kernel_rfl) rfl hO5 1 rfl) ?_
 refine rl_v rfl rfl rfl (ov_move rfl rfl) <| rl_v rfl rfl rfl (ov_move rfl rfl) ?_
 refine rl_call callable_84 rfl rfl rfl rfl rfl rfl (rsend_any X ⟨0, 1, k, d⟩ _ B N _ w0 w4 (by omega) (RWt.of2 hO5 hK)) (fun e7 w8 hp9 => ?_)
 obtain ⟨v10, rfl, hR⟩ := hp9
 refine ⟨_, rfl, ?_⟩
 refine rl_v rfl rfl rfl (ov_move rfl rfl) <| rl_v rfl rfl rfl (ov_move rfl rfl) ?_
 refine rl_call callable_84 rfl rfl rfl rfl rfl rfl (rsend_any (X.send ⟨0, 1, k, d⟩) ⟨0, 2, k, d⟩ _ B N _ w0 w8 (by rw [MW.send_len]; omega) hR) (fun e10 w11 hp12 => ?_)
 obtain ⟨v13, rfl, hR2⟩ := hp12
 refine ⟨_, rfl, ?_⟩
 obtain ⟨K2, rfl, hO2, hK2⟩ := hR2
 refine rl_ow rfl (ow_storeW rfl rfl (by kernel_rfl) hO2 0 rfl rfl (by rfl) rfl (by rfl)) ?_
 rintro _ w13 ⟨rfl, hO14, hs15⟩
 refine rl_nil <| run_ret Try.func81 (resW Try.results81 rfl Try.underlying69 rfl (by kernel_rfl) hO14 0 rfl) ?_
 exact ⟨_, rfl, K2, rfl, hO14.tail.tail, hK2⟩
end Go.Proofs.Yteagflekbbchhaa
