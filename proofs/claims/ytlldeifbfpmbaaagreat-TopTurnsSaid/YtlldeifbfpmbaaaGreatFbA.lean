import Derived.Test.YtlldeifbfpmbaaaGreatLate
import Derived.Test.YtlldeifbfpmbaaaGreatFhA
set_option maxRecDepth 100000
namespace Go.Proofs.YtlldeifbfpmbaaaGreat
open Go.RowKit Go.Proofs Go.MapKept
section
variable {P : Program} {N : Nat} {o : Oper} {F : Fr} {w : World}
theorem ov_lookR2 {T kt et : TypeId} {x ix : Operand} {b : Nat} {i r : Int} {n : Nat} {L : List (Int × Value)} (ho : o.op = .lookup T x ix true) (hT : P.underlying T = some (.map kt et)) (hk : P.underlying kt = some (.int .i64)) (hz : (P.info? et).map (·.zero) = some (some (iv 0)))
  (hx : Fr.ev F x = some (.map (some b))) (hi : Fr.ev F ix = some (.int .i64 i)) (hm : w.heap[b]? = some (.map (ents L 0).toArray L.length)) (hl : lkp L i = if r < n then some (iv r) else none) : OpV P N o F w (.tuple #[iv (if r < n then r else 0), .bool (decide (r < n))]) := by
 intro a ha
 unfold execOp
 rw [ho]
 obtain ⟨it, hit, hz0⟩ := Option.map_eq_some_iff.1 hz
 have h1 := run_findKey (P := P) (w := w) hk (findNow_ents L 0 i 0)
 have h2 : ∀ e n, (Instr.checkKey e (n + 1) kt (.int .i64 i)).run P w = .ok () w := fun e n => run_checkKey hk (by simp [IsKey]) e n
 have h3 := h2 (ents L 0).toArray.isEmpty 9999
 have e := fnd_lkp L i 0
 rw [hl] at e
 have hr : (Instr.lookup T (.map (some b)) (.int .i64 i) true).run P w = .ok (.tuple #[iv (if r < n then r else 0), .bool (decide (r < n))]) w := by
  unfold Instr.lookup
  simp only [Sem.run_bind, run_underlying hT, Result.andThen_ok, MapKept.run_getObj_map hm, Sem.run_pure, h3, h1]
  by_cases c : r < n
  ·rw [if_pos c] at e
   cases hf : fnd L i 0 with
   | none => rw [hf] at e; cases e
   | some p =>
    obtain ⟨q, u⟩ := p
    rw [hf] at e
    simp only [Option.map_some, Option.some.injEq] at e
    subst e
    simp [c]
  ·rw [if_neg c] at e
   cases hf : fnd L i 0 with
   | none => simp [zeroValue, typeInfo, hit, hz0, Result.andThen, c]
   | some p => obtain ⟨q, u⟩ := p; rw [hf] at e; cases e
 simp [ha.ev hx, ha.ev hi, hr, Result.andThen]
theorem ov_lookR {T kt et : TypeId} {x ix : Operand} {b : Nat} {i r : Int} {n : Nat} {L : List (Int × Value)} (ho : o.op = .lookup T x ix false) (hT : P.underlying T = some (.map kt et)) (hk : P.underlying kt = some (.int .i64)) (hz : (P.info? et).map (·.zero) = some (some (iv 0)))
  (hx : Fr.ev F x = some (.map (some b))) (hi : Fr.ev F ix = some (.int .i64 i)) (hm : w.heap[b]? = some (.map (ents L 0).toArray L.length)) (hl : lkp L i = if r < n then some (iv r) else none) : OpV P N o F w (iv (if r < n then r else 0)) := by
 have e : (lkp L i).getD (iv 0) = iv (if r < n then r else 0) := by rw [hl]; split <;> rfl
 rw [← e]
 exact ov_lookup ho hT hk hz hx hi hm
end
def rkL (E : Int → Int) : Nat → List (Int × Value)
 | 0 => []
 | n + 1 => mput (rkL E n) (E n) (iv n)
theorem rkL_succ (E : Int → Int) {k : Int} (h : 0 ≤ k) : rkL E (k + 1).toNat = mput (rkL E k.toNat) (E k) (iv k) := by
 rw [show (k + 1).toNat = k.toNat + 1 by omega]
 show mput (rkL E k.toNat) (E (k.toNat : Int)) (iv (k.toNat : Int)) = _
 rw [show (k.toNat : Int) = k by omega]
theorem rkL_lkp {E : Int → Int} {x : Int} : ∀ {n : Nat}, (∀ a b : Int, 0 ≤ a → a < n → 0 ≤ b → b < n → E a = E b → a = b) → lkp (rkL E n) x = if rk E n x < n then some (iv (rk E n x)) else none
 | 0, _ => rfl
 | n + 1, hd => by
  have ih := rkL_lkp (E := E) (x := x) (n := n) fun a b a0 a1 b0 b1 => hd a b a0 (by omega) b0 (by omega)
  have hr := rk_rng E x n
  show lkp (mput (rkL E n) (E n) (iv n)) x = _
  rw [lkp_mput, ih]
  by_cases c : x = E n
  ·have h2 : rk E (n + 1) x = n := rk_of hd (by omega) (by omega) c.symm
   rw [if_pos c, h2, if_pos (by omega)]
  ·rw [if_neg c]
   by_cases d : rk E n x < n
   ·have : rk E (n + 1) x = rk E n x := by
     show (if rk E n x < n then rk E n x else if E n = x then (n : Int) else n + 1) = _
     rw [if_pos d]
    rw [if_pos d, this, if_pos (by omega)]
   ·have : rk E (n + 1) x = n + 1 := by
     show (if rk E n x < n then rk E n x else if E n = x then (n : Int) else n + 1) = _
     rw [if_neg d, if_neg (fun e => c e.symm)]
    rw [if_neg d, this, if_neg (by omega)]
def MAt (B : Nat) (w : World) (ao : Option Addr) (n : Nat) (L : Int → List (Int × Value)) : Prop :=
 ∃ mb : Int → Nat, IAt B w ao n (fun g => .map (some (mb g))) ∧ ∀ g : Int, 0 ≤ g → g < n → mb g < B ∧ w.heap[mb g]? = some (.map (ents (L g) 0).toArray (L g).length)
theorem MAt.below {B : Nat} {w w' : World} {ao : Option Addr} {n : Nat} {L : Int → List (Int × Value)} (h : MAt B w ao n L) (hb : Below B w w') : MAt B w' ao n L := by
 obtain ⟨mb, h1, h2⟩ := h
 exact ⟨mb, h1.below hb, fun g g0 g1 => ⟨(h2 g g0 g1).1, by rw [hb.block _ (h2 g g0 g1).1]; exact (h2 g g0 g1).2⟩⟩
theorem MAt.mono {B B' : Nat} {w : World} {ao : Option Addr} {n : Nat} {L : Int → List (Int × Value)} (h : MAt B w ao n L) (hB : B ≤ B') : MAt B' w ao n L := by
 obtain ⟨mb, h1, h2⟩ := h
 exact ⟨mb, h1.mono hB, fun g g0 g1 => ⟨Nat.lt_of_lt_of_le (h2 g g0 g1).1 hB, (h2 g g0 g1).2⟩⟩
theorem MAt.open {B : Nat} {w : World} {ao : Option Addr} {n : Nat} {L : Int → List (Int × Value)} (h : MAt B w ao n L) :
  ∃ (mb : Int → Nat) (gb go : Nat), (0 < n → ao = some ⟨gb, go, none⟩) ∧ (∀ w', Below B w w' → ∀ i : Int, 0 ≤ i → i < n → w'.cell? ⟨gb, go + i.toNat, none⟩ = some (.map (some (mb i)))) ∧ ∀ w', Below B w w' → ∀ i : Int, 0 ≤ i → i < n → w'.heap[mb i]? = some (.map (ents (L i) 0).toArray (L i).length) := by
 obtain ⟨mb, h1, h2⟩ := h
 obtain ⟨gb, go, e1, e2⟩ := h1.open
 exact ⟨mb, gb, go, e1, fun w' hb i i0 i1 => e2 w' hb i i0 i1, fun w' hb i i0 i1 => by rw [hb.block _ (h2 i i0 i1).1]; exact (h2 i i0 i1).2⟩
structure FAt (B : Nat) (w : World) (ga ba qa : Option Addr) (f : Fair) : Prop where
 g : ITab B w ga f.n f.gl (fun r c => iv (f.ge r c))
 b : ITab B w ba f.m f.bl (fun r c => iv (f.be r c))
 q : IAt B w qa f.m (fun b => iv (f.q b))
theorem FAt.below {B : Nat} {w w' : World} {ga ba qa : Option Addr} {f : Fair} (h : FAt B w ga ba qa f) (hb : Below B w w') : FAt B w' ga ba qa f := ⟨h.g.below hb, h.b.below hb, h.q.below hb⟩
theorem FAt.mono {B B' : Nat} {w : World} {ga ba qa : Option Addr} {f : Fair} (h : FAt B w ga ba qa f) (hB : B ≤ B') : FAt B' w ga ba qa f := ⟨h.g.mono hB, h.b.mono hB, h.q.mono hB⟩
structure Fair.Sm (f : Fair) : Prop where
 n : f.n ≤ 64
 m : f.m ≤ 64
 gl : ∀ g : Int, 0 ≤ g → g < f.n → f.gl g ≤ 64
 bl : ∀ b : Int, 0 ≤ b → b < f.m → f.bl b ≤ 64
 q : ∀ b : Int, 0 ≤ b → b < f.m → 0 ≤ f.q b ∧ f.q b ≤ 64
def PT (B : Nat) (w : World) (tb : Nat) (f : Fair) : Prop :=
 ∃ (ga ba qa ma na : Option Addr) (gc bc qc mc nc : Nat), LAt B w tb [.slice ga f.n gc, .slice ba f.m bc, .slice qa f.m qc, .slice ma f.n mc, .slice na f.m nc] ∧ FAt B w ga ba qa f ∧ MAt B w ma f.n (fun g => rkL (f.ge g) (f.gl g)) ∧ MAt B w na f.m (fun b => rkL (f.be b) (f.bl b))
theorem PT.below {B : Nat} {w w' : World} {tb : Nat} {f : Fair} (h : PT B w tb f) (hb : Below B w w') : PT B w' tb f := by
 obtain ⟨ga, ba, qa, ma, na, gc, bc, qc, mc, nc, h1, h2, h3, h4⟩ := h
 exact ⟨ga, ba, qa, ma, na, gc, bc, qc, mc, nc, h1.below hb, h2.below hb, h3.below hb, h4.below hb⟩
theorem PT.mono {B B' : Nat} {w : World} {tb : Nat} {f : Fair} (h : PT B w tb f) (hB : B ≤ B') : PT B' w tb f := by
 obtain ⟨ga, ba, qa, ma, na, gc, bc, qc, mc, nc, h1, h2, h3, h4⟩ := h
 exact ⟨ga, ba, qa, ma, na, gc, bc, qc, mc, nc, h1.mono hB, h2.mono hB, h3.mono hB, h4.mono hB⟩
theorem Own.pt {B : Nat} {w0 w : World} {H : List (Option Blk)} (hO : Own B w0 w H) {tb : Nat} {f : Fair} (h : PT B w0 tb f) : PT w.heap.size w tb f := (h.below hO.below).mono hO.size
theorem Own.iatF {B : Nat} {w0 w : World} {H : List (Option Blk)} (hO : Own B w0 w H) {ao : Option Addr} {n : Nat} {G : Int → Value} (h : IAt B w0 ao n G) : IAt w.heap.size w ao n G := (hO.old h).mono hO.size
theorem Own.fat {B : Nat} {w0 w : World} {H : List (Option Blk)} (hO : Own B w0 w H) {ga ba qa : Option Addr} {f : Fair} (h : FAt B w0 ga ba qa f) : FAt w.heap.size w ga ba qa f := (h.below hO.below).mono hO.size
theorem maps_snoc {mb : Nat → Nat} {R : Int → List (Int × Value)} {k bm : Nat} : (List.range (k + 1)).map (fun i : Nat => some (mch (if i = k then bm else mb i) (R i))) = (List.range k).map (fun i : Nat => some (mch (mb i) (R i))) ++ [some (mch bm (R k))] := by
 rw [List.range_succ, List.map_append]
 congr 1
 ·refine List.map_congr_left fun i hi => ?_
  rw [if_neg (by have := List.mem_range.1 hi; omega)]
 ·simp
theorem perm_sink4 {α : Type} {x a b c : α} {M T : List α} : (x :: a :: b :: c :: (M ++ T)).Perm (a :: b :: c :: ((M ++ [x]) ++ T)) := (List.perm_append_comm (l₁ := [x]) (l₂ := a :: b :: c :: M)).append_right T
theorem perm_sink3 {α : Type} {x a b c : α} {M : List α} : (x :: a :: b :: c :: M).Perm (a :: b :: c :: (M ++ [x])) := List.perm_append_comm (l₁ := [x]) (l₂ := a :: b :: c :: M)
theorem perm_none3 {α : Type} {x a b : α} {T : List α} : (x :: a :: b :: T).Perm (a :: b :: x :: T) := (List.perm_append_comm (l₁ := [x]) (l₂ := [a, b])).append_right T
theorem MAt.of {B : Nat} {w0 w : World} {H : List (Option Blk)} {ao : Option Addr} {m cap n : Nat} {E : TypeId} {mb : Nat → Nat} {R : Int → List (Int × Value)} {c : Option Blk} (hr : IRow (.slice ao m cap) E n (fun g => .map (some (mb g.toNat))) c) (hO : Own B w0 w H) (k : Nat) (hk : H[k]? = some c)
  (hm : ∀ i : Nat, i < n → some (mch (mb i) (R i)) ∈ H) : MAt w.heap.size w ao n R :=
 ⟨fun g => mb g.toNat, hr.reads hO k hk, fun g g0 g1 => by
  have h := hO.at_ _ (hm g.toNat (by omega))
  rw [show (g.toNat : Int) = g by omega] at h
  exact ⟨blkIs.lt h, h⟩⟩
theorem ranks_any (ao : Option Addr) (n c : Nat) (E : Int → Int) (w : World) (hn : n ≤ 1000000) (h : IAt w.heap.size w ao n (fun k => iv (E k))) :
  Calls Tryz.prog 72 #[.slice ao n c] w fun e w' => ∃ b, e = .returned (.map (some b)) ∧ Own w.heap.size w w' [some (mch b (rkL E n))] := by
 obtain ⟨gb, go, hga, hrow⟩ := h.open
 refine calls_of_run (F := [(0, _)]) Tryz.func72 rfl Tryz.ntmps72 rfl rfl ?_
 have hO0 := Own.init w
 refine run_seq <| run_region <| rl_v rfl rfl rfl (ov_assign rfl rfl) <| rl_nil <| run_seq <| run_region <| rl_ow rfl (ow_makemap rfl rfl rfl hO0) ?_
 rintro _ w1 ⟨b, rfl, hO2, hs3⟩
 refine rl_v rfl rfl rfl (ov_assign rfl rfl) <| rl_nil <| run_seq <| run_seq <| run_region <| rl_v rfl rfl rfl (ov_move rfl rfl) <| rl_v rfl rfl rfl (ov_len rfl Tryz.underlying23 rfl) <| rl_v rfl rfl rfl (ov_move rfl rfl) <| rl_nil <| run_block <| Run.keep [3, 7, 8, 9] (F' := [(3, _), (7, _), (8, _), (9, _)]) rfl <| run_loop1 (fun (k : Int) => [(9, .int .i64 k)]) [3, 7, 8] (fun (k : Int) (w4 : World) => 0 ≤ k ∧ k ≤ n ∧ Own w.heap.size w w4 [some (mch b (rkL E k.toNat))]) (fun (k : Int) => ((n : Int) - k).toNat) (0) ?_ (And.intro (by exact slot_int rfl (by first | omega)) (And.intro rfl (And.intro rfl (And.intro rfl trivial)))) ?_
 ·exact ⟨by omega, by omega, hO2⟩
 intro k w4 hIw4 ih5
 obtain ⟨hk0, hk1, hO⟩ := hIw4
 show Run _ _ _ _ [(9, _), (3, _), (7, _), (8, _)] _ _
 refine run_seq <| run_region <| rl_v rfl rfl rfl (ov_lss rfl rfl rfl) <| rl_nil <| run_seq ?_
 first | refine run_cond_dec rfl (fun h1 => ?_) (fun h1 => ?_) | refine run_cond rfl (fun h1 => ?_) (fun h1 => ?_)
 ·refine run_skip <| run_seq <| run_block <| run_seq <| run_region <| rl_v rfl rfl rfl (ov_move rfl rfl) <| rl_v rfl rfl rfl (ov_index1 rfl Tryz.underlying23 (by kernel_rfl) rfl rfl ⟨by omega, by omega⟩ (by exact hga (by omega))) ?_
  refine rl_v rfl rfl rfl (ov_load rfl Tryz.underlying3 rfl rfl (by exact hrow _ hO.below _ (by omega) (by omega))) ?_
  refine rl_v rfl rfl rfl (ov_assign rfl rfl) <| rl_v rfl rfl rfl (ov_assign rfl rfl) <| rl_nil <| run_region <| rl_v rfl rfl rfl (ov_move rfl rfl) <| rl_v rfl rfl rfl (ov_move rfl rfl) <| rl_v rfl rfl rfl (ov_move rfl rfl) <| rl_ow rfl (ow_mapput rfl rfl Tryz.underlying97 Tryz.underlying3 hO 0 rfl rfl rfl rfl) ?_
  rintro _ w6 ⟨rfl, hO7, hs8⟩
  refine rl_nil <| run_inBlock <| run_region <| rl_v rfl rfl rfl (ov_add rfl rfl rfl (by omega)) ?_
  refine rl_v rfl rfl rfl (ov_move rfl rfl) <| rl_nil ?_
  refine Run.use (ih5 (k + 1) _ ?_ ?_) (And.intro (by exact slot_int rfl (by first | omega)) (And.intro rfl (And.intro rfl (And.intro rfl trivial))))
  ·first | omega | (dsimp only; omega)
  ·exact ⟨by omega, by omega, by rw [rkL_succ E hk0]; exact hO7⟩
 ·obtain rfl : k = n := by omega
  refine run_exit rfl <| run_seq <| run_region <| rl_v rfl rfl rfl (ov_move rfl rfl) <| rl_v rfl rfl rfl (ov_assign rfl rfl) <| rl_nil <| run_ret Tryz.func72 (res1 Tryz.results72 rfl) ?_
  exact ⟨b, rfl, hO⟩
section
variable (tb : Nat) (f : Fair) (w : World) (g b : Int)
theorem knows_any (hf : f.Ok) (h : PT w.heap.size w tb f) (g0 : 0 ≤ g) (g1 : g < f.n) (b0 : 0 ≤ b) (b1 : b < f.m) :
  Calls Tryz.prog 79 #[ptr tb, iv g, iv b] w fun e w' => e = .returned (.bool (decide (f.know g b))) ∧ Below w.heap.size w w' := by
 obtain ⟨ga, ba, qa, ma, na, gc, bc, qc, mc, nc, hL, hF, hM, hN⟩ := h
 have hl := hL.open
 obtain ⟨mg, gb, go, hga, hrow, hmap⟩ := hM.open
 obtain ⟨nb, qb, qo, hqa, hqrow, hnap⟩ := hN.open
 have hlg := rkL_lkp (E := f.ge g) (x := b) (hf.gd g g0 g1)
 have hlb := rkL_lkp (E := f.be b) (x := g) (hf.bd b b0 b1)
 refine calls_of_run (F := [(0, _), (1, _), (2, _)]) Tryz.func79 rfl Tryz.ntmps79 rfl rfl ?_
 have hO0 := Own.init w
 refine run_seq <| run_region <| rl_v rfl rfl rfl (ov_assign rfl rfl) <| rl_nil <| run_seq <| run_region <| rl_v rfl rfl rfl (ov_move rfl rfl) <| rl_v rfl rfl rfl (ov_nil rfl rfl) <| rl_v rfl rfl rfl (ov_fieldS rfl Tryz.underlying100 rfl (fo := 3) rfl (by kernel_rfl) rfl) ?_
 refine rl_v rfl rfl rfl (ov_load rfl Tryz.underlying98 rfl rfl (by exact hl _ hO0.below rfl)) ?_
 refine rl_v rfl rfl rfl (ov_move rfl rfl) <| rl_v rfl rfl rfl (ov_index1 rfl Tryz.underlying98 (by kernel_rfl) rfl rfl ⟨by omega, by omega⟩ (by exact hga (by omega))) ?_
 refine rl_v rfl rfl rfl (ov_load rfl Tryz.underlying97 rfl rfl (by exact hrow _ hO0.below _ (by omega) (by omega))) ?_
 refine rl_v rfl rfl rfl (ov_move rfl rfl) <| rl_v rfl rfl rfl (ov_lookR2 rfl Tryz.underlying97 Tryz.underlying3 rfl rfl rfl (hmap _ hO0.below _ (by omega) (by omega)) hlg) ?_
 refine rl_v rfl rfl rfl (ov_move rfl rfl) <| rl_v rfl rfl rfl (ov_extract rfl rfl (by rfl)) ?_
 refine rl_v rfl rfl rfl (ov_extract rfl rfl (by rfl)) ?_
 refine rl_v rfl rfl rfl (ov_assign rfl rfl) <| rl_v rfl rfl rfl (ov_assign rfl rfl) <| rl_nil <| run_seq <| run_region <| rl_v rfl rfl rfl (ov_move rfl rfl) <| rl_v rfl rfl rfl (ov_nil rfl rfl) <| rl_v rfl rfl rfl (ov_fieldS rfl Tryz.underlying100 rfl (fo := 4) rfl (by kernel_rfl) rfl) ?_
 refine rl_v rfl rfl rfl (ov_load rfl Tryz.underlying98 rfl rfl (by exact hl _ hO0.below rfl)) ?_
 refine rl_v rfl rfl rfl (ov_move rfl rfl) <| rl_v rfl rfl rfl (ov_index1 rfl Tryz.underlying98 (by kernel_rfl) rfl rfl ⟨by omega, by omega⟩ (by exact hqa (by omega))) ?_
 refine rl_v rfl rfl rfl (ov_load rfl Tryz.underlying97 rfl rfl (by exact hqrow _ hO0.below _ (by omega) (by omega))) ?_
 refine rl_v rfl rfl rfl (ov_move rfl rfl) <| rl_v rfl rfl rfl (ov_lookR2 rfl Tryz.underlying97 Tryz.underlying3 rfl rfl rfl (hnap _ hO0.below _ (by omega) (by omega)) hlb) ?_
 refine rl_v rfl rfl rfl (ov_move rfl rfl) <| rl_v rfl rfl rfl (ov_extract rfl rfl (by rfl)) ?_
 refine rl_v rfl rfl rfl (ov_extract rfl rfl (by rfl)) ?_
 refine rl_v rfl rfl rfl (ov_assign rfl rfl) <| rl_v rfl rfl rfl (ov_assign rfl rfl) <| rl_nil <| run_seq <| run_region <| rl_v rfl rfl rfl (ov_move rfl rfl) <| rl_v rfl rfl rfl (ov_move rfl rfl) ?_
 first | refine rl_split_dec 36 rfl (fun h1 => ?_) (fun h1 => ?_) | refine rl_split 36 rfl (fun h1 => ?_) (fun h1 => ?_)
 ·refine rl_gv rfl rfl rfl rfl rfl (ov_move rfl rfl) <| rl_v rfl rfl rfl (ov_pick_t rfl rfl rfl) <| rl_v rfl rfl rfl (ov_assign rfl rfl) <| rl_nil <| run_ret Tryz.func79 (res1 Tryz.results79 rfl) ?_
  exact ⟨congrArg (fun x => Ending.returned (.bool x)) (decide_eq_decide.2 ⟨fun h2 => ⟨h1, h2⟩, And.right⟩), hO0.below⟩
 ·refine rl_gskip rfl rfl rfl rfl rfl rfl <| rl_v rfl rfl rfl (ov_pick_f rfl rfl rfl) <| rl_v rfl rfl rfl (ov_assign rfl rfl) <| rl_nil <| run_ret Tryz.func79 (res1 Tryz.results79 rfl) ?_
  exact ⟨congrArg (fun x => Ending.returned (.bool x)) (decide_eq_false fun h => h1 h.1).symm, hO0.below⟩
theorem likes_any (hf : f.Ok) (h : PT w.heap.size w tb f) (g0 : 0 ≤ g) (g1 : g < f.n) (hk : b < 0 ∨ f.rg g b < f.gl g) :
  Calls Tryz.prog 82 #[ptr tb, iv g, iv b] w fun e w' => e = .returned (iv (if b < 0 then f.m else f.rg g b)) ∧ Below w.heap.size w w' := by
 obtain ⟨ga, ba, qa, ma, na, gc, bc, qc, mc, nc, hL, hF, hM, hN⟩ := h
 have hl := hL.open
 obtain ⟨mg, gb, go, hga, hrow, hmap⟩ := hM.open
 have hlg := rkL_lkp (E := f.ge g) (x := b) (hf.gd g g0 g1)
 refine calls_of_run (F := [(0, _), (1, _), (2, _)]) Tryz.func82 rfl Tryz.ntmps82 rfl rfl ?_
 have hO0 := Own.init w
 refine run_seq <| run_region <| rl_v rfl rfl rfl (ov_assign rfl rfl) <| rl_nil <| run_seq <| run_seq <| run_region <| rl_v rfl rfl rfl (ov_move rfl rfl) <| rl_v rfl rfl rfl (ov_lss rfl rfl rfl) <| rl_nil ?_
 first | refine run_cond_dec rfl (fun h1 => ?_) (fun h1 => ?_) | refine run_cond rfl (fun h1 => ?_) (fun h1 => ?_)
 ·refine run_seq <| run_region <| rl_v rfl rfl rfl (ov_move rfl rfl) <| rl_v rfl rfl rfl (ov_nil rfl rfl) <| rl_v rfl rfl rfl (ov_fieldS rfl Tryz.underlying100 rfl (fo := 0) rfl (by kernel_rfl) rfl) ?_
  refine rl_v rfl rfl rfl (ov_fieldS rfl Tryz.underlying27 rfl (fo := 1) rfl (by kernel_rfl) rfl) ?_
  refine rl_v rfl rfl rfl (ov_load rfl Tryz.underlying22 rfl rfl (by exact hl _ hO0.below rfl)) ?_
  refine rl_v rfl rfl rfl (ov_len rfl Tryz.underlying22 rfl) <| rl_v rfl rfl rfl (ov_assign rfl rfl) <| rl_nil <| run_ret Tryz.func82 (res1 Tryz.results82 rfl) ?_
  exact ⟨by rw [if_pos h1], hO0.below⟩
 ·have h2 : rk (f.ge g) (f.gl g) b < f.gl g := by unfold Fair.rg at hk; omega
  refine run_skip <| run_seq <| run_region <| rl_v rfl rfl rfl (ov_move rfl rfl) <| rl_v rfl rfl rfl (ov_nil rfl rfl) <| rl_v rfl rfl rfl (ov_fieldS rfl Tryz.underlying100 rfl (fo := 3) rfl (by kernel_rfl) rfl) ?_
  refine rl_v rfl rfl rfl (ov_load rfl Tryz.underlying98 rfl rfl (by exact hl _ hO0.below rfl)) ?_
  refine rl_v rfl rfl rfl (ov_move rfl rfl) <| rl_v rfl rfl rfl (ov_index1 rfl Tryz.underlying98 (by kernel_rfl) rfl rfl ⟨by omega, by omega⟩ (by exact hga (by omega))) ?_
  refine rl_v rfl rfl rfl (ov_load rfl Tryz.underlying97 rfl rfl (by exact hrow _ hO0.below _ (by omega) (by omega))) ?_
  refine rl_v rfl rfl rfl (ov_move rfl rfl) <| rl_v rfl rfl rfl (ov_lookR rfl Tryz.underlying97 Tryz.underlying3 rfl rfl rfl (hmap _ hO0.below _ (by omega) (by omega)) hlg) ?_
  refine rl_v rfl rfl rfl (ov_assign rfl rfl) <| rl_nil <| run_ret Tryz.func82 (res1 Tryz.results82 rfl) ?_
  exact ⟨by rw [if_neg h1, if_pos h2]; rfl, hO0.below⟩
end
theorem built_tables (x y z : Value) (a b c : Option Addr) (n m k n' m' k' : Nat) (hx : x = .slice a n n') (hy : y = .slice b m m') (hz : z = .slice c k k') : Tryz.prog.built 100 [(0, .agg #[x, y, z])] = some #[x, y, z, .slice none 0 0, .slice none 0 0] := by subst hx hy hz; kernel_rfl
theorem ov_buildTables {N : Nat} {o : Oper} {F : Fr} {w : World} {x : Operand} {a b c : Option Addr} {n m k n' m' k' : Nat} (ho : o.op = .build 100 #[(0, x)]) (hx : Fr.ev F x = some (.agg #[.slice a n n', .slice b m m', .slice c k k'])) :
  OpV Tryz.prog N o F w (.agg #[.slice a n n', .slice b m m', .slice c k k', .slice none 0 0, .slice none 0 0]) := by
 intro st ha
 have := run_build (P := Tryz.prog) w 100 #[(0, st.eval x)] _ (by rw [ha.ev hx]; exact built_tables _ _ _ _ _ _ _ _ _ _ _ _ rfl rfl rfl)
 unfold execOp
 rw [ho]
 simp [this, Result.andThen]
set_option maxHeartbeats 1000000 in
theorem newTables_any (ga ba qa : Option Addr) (gc bc qc : Nat) (f : Fair) (w : World) (hs : f.Sm) (hF : FAt w.heap.size w ga ba qa f) :
  Calls Tryz.prog 40 #[.agg #[.slice ga f.n gc, .slice ba f.m bc, .slice qa f.m qc]] w fun e w' => ∃ tb H, e = .returned (ptr tb) ∧ Own w.heap.size w w' H ∧ PT w'.heap.size w' tb f := by
 obtain ⟨A, C, RB, RO, gb, go, hga, hrow, hra, hel, hcan⟩ := hF.g.open
 obtain ⟨A', C', RB', RO', gb', go', hga', hrow', hra', hel', hcan'⟩ := hF.b.open
 have hn := hs.n
 have hm := hs.m
 refine calls_of_run (F := [(0, _)]) Tryz.func40 rfl Tryz.ntmps40 rfl rfl ?_
 have hO0 := Own.init w
 refine run_seq <| run_region <| rl_ow rfl (ow_box _ rfl rfl rfl rfl rfl hO0) ?_
 rintro _ w1 ⟨b1, rfl, hO2, hs3⟩
 refine rl_v rfl rfl rfl (ov_assign rfl rfl) <| rl_nil <| run_seq <| run_region <| rl_v rfl rfl rfl (ov_loadW rfl Tryz.underlying27 rfl (by kernel_rfl) rfl hO2 0 rfl) ?_
 refine rl_v rfl rfl rfl (ov_buildTables rfl rfl) <| rl_ow rfl (ow_box _ rfl rfl rfl rfl rfl hO2) ?_
 rintro _ w4 ⟨tb, rfl, hO5, hs6⟩
 refine rl_v rfl rfl rfl (ov_assign rfl rfl) <| rl_nil <| run_seq <| run_seq <| run_region <| rl_v rfl rfl rfl (ov_fieldS rfl Tryz.underlying27 rfl (fo := 0) rfl (by kernel_rfl) rfl) ?_
 refine rl_v rfl rfl rfl (ov_load rfl Tryz.underlying22 rfl rfl (by exact hO5.cellL 1 rfl (off := 0) rfl)) ?_
 refine rl_v rfl rfl rfl (ov_len rfl Tryz.underlying22 rfl) <| rl_v rfl rfl rfl (ov_move rfl rfl) <| rl_nil <| run_block <| Run.keep [1, 3, 12, 13, 14] (F' := [(1, _), (3, _), (12, _), (13, _), (14, _)]) rfl <| run_loop4 (fun (k : Int) (v : Value) (c : Option Blk) (mb : Nat → Nat) => [(14, .int .i64 k)]) [1, 3, 12, 13] (fun (k : Int) (v : Value) (c : Option Blk) (mb : Nat → Nat) (w7 : World) => 0 ≤ k ∧ k ≤ f.n ∧ IRow v 97 k.toNat (fun g => .map (some (mb g.toNat))) c ∧ Own w.heap.size w w7 (some (lch tb 100 [.slice ga f.n gc, .slice ba f.m bc, .slice qa f.m qc, v, .slice none 0 0]) :: some (lch b1 27 [.slice ga f.n gc, .slice ba f.m bc, .slice qa f.m qc]) :: c :: (List.range k.toNat).map (fun i : Nat => some (mch (mb i) (rkL (f.ge i) (f.gl i)))))) (fun (k : Int) (v : Value) (c : Option Blk) (mb : Nat → Nat) => ((f.n : Int) - k).toNat) (0) (.slice none 0 0) (none) (fun _ => 0) ?_ (And.intro (by exact slot_int rfl (by first | omega)) (And.intro rfl (And.intro rfl (And.intro rfl (And.intro rfl trivial))))) ?_
 ·exact ⟨by omega, by omega, IRow.nil _ _, hO5.nil_cons.perm (List.perm_append_comm (l₁ := [none]) (l₂ := [_, _]))⟩
 intro k v c mb w7 hIw7 ih8
 obtain ⟨hk0, hk1, hr, hO⟩ := hIw7
 show Run _ _ _ _ [(14, _), (1, _), (3, _), (12, _), (13, _)] _ _
 refine run_seq <| run_region <| rl_v rfl rfl rfl (ov_lss rfl rfl rfl) <| rl_nil <| run_seq ?_
 first | refine run_cond_dec rfl (fun h1 => ?_) (fun h1 => ?_) | refine run_cond rfl (fun h1 => ?_) (fun h1 => ?_)
 ·refine run_skip <| run_seq <| run_block <| run_seq <| run_region <| rl_v rfl rfl rfl (ov_index1 rfl Tryz.underlying22 (by kernel_rfl) rfl rfl ⟨by omega, by omega⟩ (by exact hga (by omega))) ?_
  refine rl_v rfl rfl rfl (ov_load rfl Tryz.underlying23 rfl rfl (by exact hrow _ hO.below _ (by omega) (by omega))) ?_
  refine rl_v rfl rfl rfl (ov_assign rfl rfl) <| rl_nil <| run_late (fun w' => Own w.heap.size w w' ([some (lch tb 100 [.slice ga f.n gc, .slice ba f.m bc, .slice qa f.m qc, v, .slice none 0 0])])) 11 mixed ?_
  have hO10 := hO.drew
  generalize World.drew w7 = w9 at hO10 ⊢
  have hS11 : Own w.heap.size w w9 ([some (lch tb 100 [.slice ga f.n gc, .slice ba f.m bc, .slice qa f.m qc, v, .slice none 0 0])]) := by first | exact hO10.sub (.cons_cons _ (List.nil_sublist _)) | exact hO10.sub (.cons _ (.cons_cons _ (List.nil_sublist _))) | exact hO10.sub (.cons _ (.cons _ (.cons_cons _ (List.nil_sublist _))))
  refine rhl_v 0 rfl (by kernel_rfl) rfl rfl rfl hS11 (fun _ hS => ov_move rfl rfl) ?_
  refine rhl_v 1 rfl (by kernel_rfl) rfl rfl rfl hS11 (fun _ hS => ov_move rfl rfl) ?_
  refine rhl_v 2 rfl (by kernel_rfl) rfl rfl rfl hS11 (fun _ hS => ov_nil rfl rfl) ?_
  refine rhl_v 3 rfl (by kernel_rfl) rfl rfl rfl hS11 (fun _ hS => ov_fieldS rfl Tryz.underlying100 rfl (fo := 3) rfl (by kernel_rfl) rfl) ?_
  refine rhl_v 4 rfl (by kernel_rfl) rfl rfl rfl hS11 (fun _ hS => ov_load rfl Tryz.underlying98 rfl rfl (by exact hS.cellL 0 rfl rfl)) ?_
  refine rhl_v 5 rfl (by kernel_rfl) rfl rfl rfl hS11 (fun _ hS => ov_move rfl rfl) ?_
  refine rhl_any1 6 (by kernel_rfl) ?_
  refine rcl_op rfl rfl (ow_call2 callable_72 rfl rfl rfl rfl rfl (ranks_any _ _ _ (f.ge k) _ (by have := hs.gl k hk0 h1; omega) (hO10.iatF (hcan k hk0 h1))) (by intro e w' hp; obtain ⟨bm, rfl, hOm⟩ := hp; exact ⟨_, rfl⟩)) ?_
  rintro _ w14 ⟨_, v12, he15, rfl, hp13⟩
  obtain ⟨bm, rfl, hOm⟩ := hp13
  injection he15 with he15; subst he15
  have hO16 := hO10.join hOm
  have hS17 : Own w.heap.size w w14 ([some (lch tb 100 [.slice ga f.n gc, .slice ba f.m bc, .slice qa f.m qc, v, .slice none 0 0])]) := by first | exact hO16.sub (.cons_cons _ (List.nil_sublist _)) | exact hO16.sub (.cons _ (.cons_cons _ (List.nil_sublist _))) | exact hO16.sub (.cons _ (.cons _ (.cons_cons _ (List.nil_sublist _))))
  refine ⟨hS17, ?_⟩
  refine rhl_any1 7 (by kernel_rfl) ?_
  refine rcl_op rfl rfl (ow_one rfl rfl rfl Tryz.underlying98 info_97 rfl hO16 rfl rfl) ?_
  rintro _ w18 ⟨b2, rfl, hO19, hs20⟩
  have hS21 : Own w.heap.size w w18 ([some (lch tb 100 [.slice ga f.n gc, .slice ba f.m bc, .slice qa f.m qc, v, .slice none 0 0])]) := by first | exact hO19.sub (.cons_cons _ (List.nil_sublist _)) | exact hO19.sub (.cons _ (.cons_cons _ (List.nil_sublist _))) | exact hO19.sub (.cons _ (.cons _ (.cons_cons _ (List.nil_sublist _))))
  refine ⟨hS21, ?_⟩
  refine rhl_any1 8 (by kernel_rfl) ?_
  refine rcl_op rfl rfl (ow_app1 rfl rfl rfl Tryz.underlying98 info_97 rfl hO19 3 hr rfl rfl rfl rfl ⟨by omega, by omega⟩) ?_
  rintro _ w22 ⟨v2, c2, rfl, hO23, hr2, hs24⟩
  have hS25 : Own w.heap.size w w22 ([some (lch tb 100 [.slice ga f.n gc, .slice ba f.m bc, .slice qa f.m qc, v, .slice none 0 0])]) := by first | exact hO23.sub (.cons_cons _ (List.nil_sublist _)) | exact hO23.sub (.cons _ (.cons_cons _ (List.nil_sublist _))) | exact hO23.sub (.cons _ (.cons _ (.cons_cons _ (List.nil_sublist _))))
  refine ⟨hS25, ?_⟩
  obtain ⟨ao2, cap2, rfl⟩ := Row.val hr2
  refine rhl_any1 9 (by kernel_rfl) ?_
  refine rcl_op rfl rfl (ow_v rfl rfl (ov_nil rfl rfl)) ?_
  rintro _ _ ⟨rfl, hw26⟩
  replace hw26 := hw26.symm; subst hw26
  refine ⟨hS25, ?_⟩
  refine rhl_v 10 rfl (by kernel_rfl) rfl rfl rfl hS25 (fun _ hS => ov_fieldS rfl Tryz.underlying100 rfl (fo := 3) rfl (by kernel_rfl) rfl) ?_
  refine rhl_any1 11 (by kernel_rfl) ?_
  refine rcl_last rfl rfl (ow_storeL rfl rfl (by kernel_rfl) hO23 1 rfl rfl rfl rfl rfl) ?_
  rintro _ w27 ⟨rfl, hO28, hs29⟩
  obtain ⟨q, rfl⟩ := Int.eq_ofNat_of_zero_le hk0
  refine rhl_done (by kernel_rfl) ?_
  refine run_inBlock <| run_region <| rl_v rfl rfl rfl (ov_add rfl rfl rfl (by omega)) ?_
  refine rl_v rfl rfl rfl (ov_move rfl rfl) <| rl_nil ?_
  refine Run.use (ih8 ((q : Int) + 1) (.slice ao2 ((q : Int).toNat + 1) cap2) (c2) (fun i => if i = q then bm else mb i) _ ?_ ?_) (And.intro (by exact slot_int rfl (by first | omega)) (And.intro rfl (And.intro rfl (And.intro rfl (And.intro rfl trivial)))))
  ·first | omega | (dsimp only; omega)
  ·exact ⟨by omega, by omega, hr2.congr (fun i i0 i1 => by unfold upd; by_cases e : i = q <;> simp [e] <;> omega), by rw [show ((q : Int) + 1).toNat = q + 1 by omega, maps_snoc (R := fun i => rkL (f.ge i) (f.gl i))]; exact hO28.perm perm_sink3⟩
 ·obtain ⟨ma, mc, rfl⟩ := Row.val hr
  have hkn : k = f.n := by omega
  subst hkn
  have hr1 := hr
  obtain ⟨M1, hM1⟩ : ∃ M1, M1 = c :: (List.range (f.n : Int).toNat).map (fun i : Nat => some (mch (mb i) (rkL (f.ge i) (f.gl i)))) := ⟨_, rfl⟩
  rw [← hM1] at hO
  refine run_exit rfl <| run_seq <| run_seq <| run_region <| rl_v rfl rfl rfl (ov_fieldS rfl Tryz.underlying27 rfl (fo := 1) rfl (by kernel_rfl) rfl) ?_
  refine rl_v rfl rfl rfl (ov_load rfl Tryz.underlying22 rfl rfl (by exact hO.cellL 1 rfl (off := 1) rfl)) ?_
  refine rl_v rfl rfl rfl (ov_len rfl Tryz.underlying22 rfl) <| rl_v rfl rfl rfl (ov_move rfl rfl) <| rl_nil <| run_block <| Run.keep [3, 31, 32, 33] (F' := [(3, _), (31, _), (32, _), (33, _)]) rfl <| run_loop4 (fun (k : Int) (v : Value) (c : Option Blk) (mb' : Nat → Nat) => [(33, .int .i64 k)]) [3, 31, 32] (fun (k : Int) (v : Value) (c : Option Blk) (mb' : Nat → Nat) (w30 : World) => 0 ≤ k ∧ k ≤ f.m ∧ IRow v 97 k.toNat (fun g => .map (some (mb' g.toNat))) c ∧ Own w.heap.size w w30 (some (lch tb 100 [.slice ga f.n gc, .slice ba f.m bc, .slice qa f.m qc, .slice ma (f.n : Int).toNat mc, v]) :: some (lch b1 27 [.slice ga f.n gc, .slice ba f.m bc, .slice qa f.m qc]) :: c :: ((List.range k.toNat).map (fun i : Nat => some (mch (mb' i) (rkL (f.be i) (f.bl i)))) ++ M1))) (fun (k : Int) (v : Value) (c : Option Blk) (mb' : Nat → Nat) => ((f.m : Int) - k).toNat) (0) (.slice none 0 0) (none) (fun _ => 0) ?_ (And.intro (by exact slot_int rfl (by first | omega)) (And.intro rfl (And.intro rfl (And.intro rfl trivial)))) ?_
  ·exact ⟨by omega, by omega, IRow.nil _ _, hO.nil_cons.perm perm_none3⟩
  intro k v c mb' w30 hIw30 ih31
  obtain ⟨hk0, hk1, hr, hO⟩ := hIw30
  show Run _ _ _ _ [(33, _), (3, _), (31, _), (32, _)] _ _
  refine run_seq <| run_region <| rl_v rfl rfl rfl (ov_lss rfl rfl rfl) <| rl_nil <| run_seq ?_
  first | refine run_cond_dec rfl (fun h1 => ?_) (fun h1 => ?_) | refine run_cond rfl (fun h1 => ?_) (fun h1 => ?_)
  ·refine run_skip <| run_seq <| run_block <| run_seq <| run_region <| rl_v rfl rfl rfl (ov_index1 rfl Tryz.underlying22 (by kernel_rfl) rfl rfl ⟨by omega, by omega⟩ (by exact hga' (by omega))) ?_
   refine rl_v rfl rfl rfl (ov_load rfl Tryz.underlying23 rfl rfl (by exact hrow' _ hO.below _ (by omega) (by omega))) ?_
   refine rl_v rfl rfl rfl (ov_assign rfl rfl) <| rl_nil <| run_late (fun w' => Own w.heap.size w w' ([some (lch tb 100 [.slice ga f.n gc, .slice ba f.m bc, .slice qa f.m qc, .slice ma (f.n : Int).toNat mc, v])])) 11 mixed ?_
   have hO33 := hO.drew
   generalize World.drew w30 = w32 at hO33 ⊢
   have hS34 : Own w.heap.size w w32 ([some (lch tb 100 [.slice ga f.n gc, .slice ba f.m bc, .slice qa f.m qc, .slice ma (f.n : Int).toNat mc, v])]) := by first | exact hO33.sub (.cons_cons _ (List.nil_sublist _)) | exact hO33.sub (.cons _ (.cons_cons _ (List.nil_sublist _))) | exact hO33.sub (.cons _ (.cons _ (.cons_cons _ (List.nil_sublist _))))
   refine rhl_v 0 rfl (by kernel_rfl) rfl rfl rfl hS34 (fun _ hS => ov_move rfl rfl) ?_
   refine rhl_v 1 rfl (by kernel_rfl) rfl rfl rfl hS34 (fun _ hS => ov_move rfl rfl) ?_
   refine rhl_v 2 rfl (by kernel_rfl) rfl rfl rfl hS34 (fun _ hS => ov_nil rfl rfl) ?_
   refine rhl_v 3 rfl (by kernel_rfl) rfl rfl rfl hS34 (fun _ hS => ov_fieldS rfl Tryz.underlying100 rfl (fo := 4) rfl (by kernel_rfl) rfl) ?_
   refine rhl_v 4 rfl (by kernel_rfl) rfl rfl rfl hS34 (fun _ hS => ov_load rfl Tryz.underlying98 rfl rfl (by exact hS.cellL 0 rfl rfl)) ?_
   refine rhl_v 5 rfl (by kernel_rfl) rfl rfl rfl hS34 (fun _ hS => ov_move rfl rfl) ?_
   refine rhl_any1 6 (by kernel_rfl) ?_
   refine rcl_op rfl rfl (ow_call2 callable_72 rfl rfl rfl rfl rfl (ranks_any _ _ _ (f.be k) _ (by have := hs.bl k hk0 h1; omega) (hO33.iatF (hcan' k hk0 h1))) (by intro e w' hp; obtain ⟨bm, rfl, hOm⟩ := hp; exact ⟨_, rfl⟩)) ?_
   rintro _ w37 ⟨_, v35, he38, rfl, hp36⟩
   obtain ⟨bm, rfl, hOm⟩ := hp36
   injection he38 with he38; subst he38
   have hO39 := hO33.join hOm
   have hS40 : Own w.heap.size w w37 ([some (lch tb 100 [.slice ga f.n gc, .slice ba f.m bc, .slice qa f.m qc, .slice ma (f.n : Int).toNat mc, v])]) := by first | exact hO39.sub (.cons_cons _ (List.nil_sublist _)) | exact hO39.sub (.cons _ (.cons_cons _ (List.nil_sublist _))) | exact hO39.sub (.cons _ (.cons _ (.cons_cons _ (List.nil_sublist _))))
   refine ⟨hS40, ?_⟩
   refine rhl_any1 7 (by kernel_rfl) ?_
   refine rcl_op rfl rfl (ow_one rfl rfl rfl Tryz.underlying98 info_97 rfl hO39 rfl rfl) ?_
   rintro _ w41 ⟨b2, rfl, hO42, hs43⟩
   have hS44 : Own w.heap.size w w41 ([some (lch tb 100 [.slice ga f.n gc, .slice ba f.m bc, .slice qa f.m qc, .slice ma (f.n : Int).toNat mc, v])]) := by first | exact hO42.sub (.cons_cons _ (List.nil_sublist _)) | exact hO42.sub (.cons _ (.cons_cons _ (List.nil_sublist _))) | exact hO42.sub (.cons _ (.cons _ (.cons_cons _ (List.nil_sublist _))))
   refine ⟨hS44, ?_⟩
   refine rhl_any1 8 (by kernel_rfl) ?_
   refine rcl_op rfl rfl (ow_app1 rfl rfl rfl Tryz.underlying98 info_97 rfl hO42 3 hr rfl rfl rfl rfl ⟨by omega, by omega⟩) ?_
   rintro _ w45 ⟨v2, c2, rfl, hO46, hr2, hs47⟩
   have hS48 : Own w.heap.size w w45 ([some (lch tb 100 [.slice ga f.n gc, .slice ba f.m bc, .slice qa f.m qc, .slice ma (f.n : Int).toNat mc, v])]) := by first | exact hO46.sub (.cons_cons _ (List.nil_sublist _)) | exact hO46.sub (.cons _ (.cons_cons _ (List.nil_sublist _))) | exact hO46.sub (.cons _ (.cons _ (.cons_cons _ (List.nil_sublist _))))
   refine ⟨hS48, ?_⟩
   obtain ⟨ao2, cap2, rfl⟩ := Row.val hr2
   refine rhl_any1 9 (by kernel_rfl) ?_
   refine rcl_op rfl rfl (ow_v rfl rfl (ov_nil rfl rfl)) ?_
   rintro _ _ ⟨rfl, hw49⟩
   replace hw49 := hw49.symm; subst hw49
   refine ⟨hS48, ?_⟩
   refine rhl_v 10 rfl (by kernel_rfl) rfl rfl rfl hS48 (fun _ hS => ov_fieldS rfl Tryz.underlying100 rfl (fo := 4) rfl (by kernel_rfl) rfl) ?_
   refine rhl_any1 11 (by kernel_rfl) ?_
   refine rcl_last rfl rfl (ow_storeL rfl rfl (by kernel_rfl) hO46 1 rfl rfl rfl rfl rfl) ?_
   rintro _ w50 ⟨rfl, hO51, hs52⟩
   obtain ⟨q, rfl⟩ := Int.eq_ofNat_of_zero_le hk0
   refine rhl_done (by kernel_rfl) ?_
   refine run_inBlock <| run_region <| rl_v rfl rfl rfl (ov_add rfl rfl rfl (by omega)) ?_
   refine rl_v rfl rfl rfl (ov_move rfl rfl) <| rl_nil ?_
   refine Run.use (ih31 ((q : Int) + 1) (.slice ao2 ((q : Int).toNat + 1) cap2) (c2) (fun i => if i = q then bm else mb' i) _ ?_ ?_) (And.intro (by exact slot_int rfl (by first | omega)) (And.intro rfl (And.intro rfl (And.intro rfl trivial))))
   ·first | omega | (dsimp only; omega)
   ·exact ⟨by omega, by omega, hr2.congr (fun i i0 i1 => by unfold upd; by_cases e : i = q <;> simp [e] <;> omega), by rw [show ((q : Int) + 1).toNat = q + 1 by omega, maps_snoc (R := fun i => rkL (f.be i) (f.bl i))]; exact hO51.perm perm_sink4⟩
  ·have hkn : k = f.m := by omega
   subst hkn
   obtain ⟨na, nc, rfl⟩ := Row.val hr
   refine run_exit rfl <| run_seq <| run_region <| rl_v rfl rfl rfl (ov_move rfl rfl) <| rl_v rfl rfl rfl (ov_assign rfl rfl) <| rl_nil <| run_ret Tryz.func40 (res1 Tryz.results40 rfl) ?_
   exact ⟨tb, _, rfl, hO, ga, ba, qa, ma, na, gc, bc, qc, mc, nc, hO.readsL 0 rfl, hO.fat hF, MAt.of hr1 hO (f.m + 3) (by rw [hM1]; simp [List.getElem?_append]) (fun i hi => by rw [hM1]; simp; grind), MAt.of hr hO 2 rfl (fun i hi => by simp; grind)⟩
end Go.Proofs.YtlldeifbfpmbaaaGreat
