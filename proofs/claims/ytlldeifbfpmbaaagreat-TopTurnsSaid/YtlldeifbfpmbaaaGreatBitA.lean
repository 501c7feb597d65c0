import Derived.Test.YtlldeifbfpmbaaaGreatFcC
import Derived.Test.YtlldeifbfpmbaaaGreatFgC
import Derived.Test.YtlldeifbfpmbaaaGreatLate
import Derived.Laws.Externs
import Derived.Lib.Mul64
import Derived.Laws.Bits64b
set_option maxRecDepth 100000
namespace Go.Proofs.YtlldeifbfpmbaaaGreat
open Go.RowKit Go.Proofs Go.MapKept
theorem cloneR_any (ao : Option Addr) (n c : Nat) (A : Int → Option Addr) (L C : Int → Nat) (w : World) (hn : n ≤ 1000000) (h : IAt w.heap.size w ao n (fun r => .slice (A r) (L r) (C r))) :
  Calls Tryz.prog 112 #[.slice ao n c] w fun e w' => ∃ v c', e = .returned v ∧ IRow v 23 n (fun r => .slice (A r) (L r) (C r)) c' ∧ Own w.heap.size w w' [c'] := by
 obtain ⟨gb, go, hga, hrow⟩ := h.open
 refine calls_of_run (F := [(0, _)]) Tryz.func112 rfl Tryz.ntmps112 rfl rfl ?_
 have hO0 := Own.init w
 refine run_seq <| run_region <| rl_v rfl rfl rfl (ov_assign rfl rfl) <| rl_nil <| run_seq <| run_seq <| run_region <| rl_v rfl rfl rfl (ov_move rfl rfl) <| rl_v rfl rfl rfl (ov_isnil rfl Tryz.underlying22 rfl) <| rl_nil ?_
 first | refine run_cond_dec rfl (fun g1 => ?_) (fun g1n => ?_) | refine run_cond rfl (fun g1 => ?_) (fun g1n => ?_)
 ·have hm0 : n = 0 := by
   rcases Nat.eq_zero_or_pos n with h | h
   ·exact h
   ·rw [hga h] at g1
    exact absurd g1 Bool.noConfusion
  subst hm0
  refine run_seq <| run_region <| rl_v rfl rfl rfl (ov_assign rfl rfl) <| rl_nil <| run_ret Tryz.func112 (res1 Tryz.results112 rfl) ?_
  exact ⟨_, none, rfl, IRow.nil _ _, hO0.nil_cons⟩
 ·refine run_skip <| run_seq <| run_region <| rl_ow rfl (ow_empty rfl rfl rfl Tryz.underlying22 info_23 hO0) ?_
  rintro _ w1 ⟨v5, c5, rfl, hO2, hR5, hs3⟩
  have hr5 : IRow v5 23 0 (fun _ => .slice none 0 0) c5 := hR5 _
  refine rl_v rfl rfl rfl (ov_move rfl rfl) <| rl_ow rfl (ow_appS rfl rfl rfl Tryz.underlying22 info_23 rfl hO2 0 hr5 rfl rfl rfl ((hO2.iatF h)) (fun _ => rfl) ⟨by omega, by omega⟩) ?_
  rintro _ w4 ⟨v7, c7, rfl, hO5, hr7, hs6⟩
  refine rl_v rfl rfl rfl (ov_assign rfl rfl) <| rl_nil <| run_ret Tryz.func112 (res1 Tryz.results112 rfl) ?_
  exact ⟨v7, c7, rfl, by rw [Nat.zero_add] at hr7; exact hr7.congr fun i h0 h1 => by unfold joinF; rw [if_neg (by omega)]; exact congrArg (fun j : Int => Value.slice (A j) (L j) (C j)) (by omega), hO5⟩
theorem equal5_any (ao bo : Option Addr) (n c m d : Nat) (X Y : Int → Int) (w : World) (hn : n ≤ 1000000) (h : IAt w.heap.size w ao n (fun i => iv (X i))) (h2 : IAt w.heap.size w bo m (fun i => iv (Y i))) :
  Calls Tryz.prog 113 #[.slice ao n c, .slice bo m d] w fun e w' => (∃ b, e = .returned (.bool b) ∧ (b = true ↔ n = m ∧ ∀ i : Int, 0 ≤ i → i < n → X i = Y i)) ∧ Below w.heap.size w w' := by
 obtain ⟨gb, go, hga, hrow⟩ := h.open
 obtain ⟨qb, qo, hqa, hq⟩ := h2.open
 refine calls_of_run (F := [(0, _), (1, _)]) Tryz.func113 rfl Tryz.ntmps113 rfl rfl ?_
 have hO0 := Own.init w
 refine run_seq <| run_region <| rl_v rfl rfl rfl (ov_assign rfl rfl) <| rl_nil <| run_seq <| run_seq <| run_region <| rl_v rfl rfl rfl (ov_move rfl rfl) <| rl_v rfl rfl rfl (ov_len rfl Tryz.underlying23 rfl) <| rl_v rfl rfl rfl (ov_move rfl rfl) <| rl_v rfl rfl rfl (ov_len rfl Tryz.underlying23 rfl) <| rl_v rfl rfl rfl (ov_neq rfl rfl rfl) <| rl_nil ?_
 first | refine run_cond_dec rfl (fun c0 => ?_) (fun c0 => ?_) | refine run_cond rfl (fun c0 => ?_) (fun c0 => ?_)
 ·refine run_seq <| run_region <| rl_v rfl rfl rfl (ov_assign rfl rfl) <| rl_nil <| run_ret Tryz.func113 (res1 Tryz.results113 rfl) ?_
  exact ⟨⟨false, rfl, ⟨fun h => Bool.noConfusion h, fun h => by omega⟩⟩, hO0.below⟩
 ·refine run_skip <| run_seq <| run_seq <| run_region <| rl_v rfl rfl rfl (ov_move rfl rfl) <| rl_v rfl rfl rfl (ov_len rfl Tryz.underlying23 rfl) <| rl_v rfl rfl rfl (ov_move rfl rfl) <| rl_nil <| run_block <| Run.keep [0, 1, 12, 13] (F' := [(0, _), (1, _), (12, _), (13, _)]) rfl <| run_loop1 (fun (i : Int) => [(13, .int .i64 i)]) [0, 1, 12] (fun (i : Int) (w1 : World) => 0 ≤ i ∧ i ≤ n ∧ (∀ j : Int, 0 ≤ j → j < i → X j = Y j) ∧ Own w.heap.size w w1 []) (fun (i : Int) => ((n : Int) - i).toNat) (0) ?_ (And.intro (by exact slot_int rfl (by first | omega)) (And.intro rfl (And.intro rfl (And.intro rfl trivial)))) ?_
  ·exact ⟨by omega, by omega, fun j j0 j1 => by omega, hO0⟩
  intro i w1 hIw1 ih2
  obtain ⟨hi0, hi1, hall, hO⟩ := hIw1
  show Run _ _ _ _ [(13, _), (0, _), (1, _), (12, _)] _ _
  refine run_seq <| run_region <| rl_v rfl rfl rfl (ov_lss rfl rfl rfl) <| rl_nil <| run_seq ?_
  first | refine run_cond_dec rfl (fun c1 => ?_) (fun c1 => ?_) | refine run_cond rfl (fun c1 => ?_) (fun c1 => ?_)
  ·refine run_skip <| run_seq <| run_block <| run_seq <| run_region <| rl_v rfl rfl rfl (ov_move rfl rfl) <| rl_v rfl rfl rfl (ov_assign rfl rfl) <| rl_nil <| run_seq <| run_quiet mixed (by kernel_rfl) ?_
   refine rq_v rfl rfl rfl (fun _ => ov_move rfl rfl) ?_
   refine rq_v rfl rfl rfl (fun _ => ov_move rfl rfl) ?_
   refine rq_v rfl rfl rfl (fun _ => ov_index1 rfl Tryz.underlying23 (by kernel_rfl) rfl rfl ⟨by omega, by omega⟩ (by exact hga (by omega))) ?_
   refine rq_v rfl rfl rfl (fun _ => ov_load rfl Tryz.underlying3 rfl rfl (by show World.cell? w1 _ = _; first | exact hrow _ hO.below _ (by omega) (by omega) | exact hq _ hO.below _ (by omega) (by omega) | exact hO.cellI 0 rfl _ (by omega) (by omega) | exact hO.cellL 0 rfl rfl | exact hO.cellI 1 rfl _ (by omega) (by omega) | exact hO.cellL 1 rfl rfl | exact hO.cellI 2 rfl _ (by omega) (by omega) | exact hO.cellL 2 rfl rfl | exact hO.cellI 3 rfl _ (by omega) (by omega) | exact hO.cellL 3 rfl rfl | exact hO.cellI 4 rfl _ (by omega) (by omega) | exact hO.cellL 4 rfl rfl | exact hO.cellI 5 rfl _ (by omega) (by omega) | exact hO.cellL 5 rfl rfl)) ?_
   refine rq_v rfl rfl rfl (fun _ => ov_move rfl rfl) ?_
   refine rq_v rfl rfl rfl (fun _ => ov_move rfl rfl) ?_
   refine rq_v rfl rfl rfl (fun _ => ov_index1 rfl Tryz.underlying23 (by kernel_rfl) rfl rfl ⟨by omega, by omega⟩ (by exact hqa (by omega))) ?_
   refine rq_v rfl rfl rfl (fun _ => ov_load rfl Tryz.underlying3 rfl rfl (by show World.cell? w1 _ = _; first | exact hrow _ hO.below _ (by omega) (by omega) | exact hq _ hO.below _ (by omega) (by omega) | exact hO.cellI 0 rfl _ (by omega) (by omega) | exact hO.cellL 0 rfl rfl | exact hO.cellI 1 rfl _ (by omega) (by omega) | exact hO.cellL 1 rfl rfl | exact hO.cellI 2 rfl _ (by omega) (by omega) | exact hO.cellL 2 rfl rfl | exact hO.cellI 3 rfl _ (by omega) (by omega) | exact hO.cellL 3 rfl rfl | exact hO.cellI 4 rfl _ (by omega) (by omega) | exact hO.cellL 4 rfl rfl | exact hO.cellI 5 rfl _ (by omega) (by omega) | exact hO.cellL 5 rfl rfl)) ?_
   refine rq_v rfl rfl rfl (fun _ => ov_neq rfl rfl rfl) ?_
   refine rq_nil (fun n3 => ?_)
   have hO5 := hO.drewN n3
   generalize World.drewN w1 n3 = w4 at hO5 ⊢
   first | refine run_cond_dec rfl (fun c2 => ?_) (fun c2 => ?_) | refine run_cond rfl (fun c2 => ?_) (fun c2 => ?_)
   ·refine run_seq <| run_region <| rl_v rfl rfl rfl (ov_assign rfl rfl) <| rl_nil <| run_ret Tryz.func113 (res1 Tryz.results113 rfl) ?_
    exact ⟨⟨false, rfl, ⟨fun h => Bool.noConfusion h, fun h => absurd (h.2 i hi0 c1) c2⟩⟩, hO5.below⟩
   ·refine run_skip <| run_inBlock <| run_region <| rl_v rfl rfl rfl (ov_add rfl rfl rfl (by omega)) ?_
    refine rl_v rfl rfl rfl (ov_move rfl rfl) <| rl_nil ?_
    refine Run.use (ih2 (i + 1) _ ?_ ?_) (And.intro (by exact slot_int rfl (by first | omega)) (And.intro rfl (And.intro rfl (And.intro rfl trivial))))
    ·first | omega | (dsimp only; omega)
    ·exact ⟨by omega, by omega, fun j j0 j1 => by by_cases e : j = i; (rw [e]; exact Classical.not_not.1 c2); (exact hall j j0 (by omega)), hO5⟩
  ·refine run_exit rfl <| run_seq <| run_region <| rl_v rfl rfl rfl (ov_assign rfl rfl) <| rl_nil <| run_ret Tryz.func113 (res1 Tryz.results113 rfl) ?_
   exact ⟨⟨true, rfl, ⟨fun _ => ⟨by omega, fun i i0 i1 => hall i i0 (by omega)⟩, fun _ => rfl⟩⟩, hO.below⟩
end Go.Proofs.YtlldeifbfpmbaaaGreat
set_option maxRecDepth 100000
namespace Go.Proofs.YtlldeifbfpmbaaaGreat
open Go.RowKit Go.Proofs Go.MapKept
def RdQ (B : Nat) (w0 : World) (T : List (Option Blk)) (v : Value) (n : Nat) (E : Int → Int) : Prop := ∃ (ao : Option Addr) (c : Nat), v = .slice ao n c ∧ ∀ w : World, Own B w0 w T → IAt w.heap.size w ao n (fun j => iv (E j))
theorem RdQ.cons {B : Nat} {w0 : World} {T : List (Option Blk)} {v : Value} {n : Nat} {E : Int → Int} (h : RdQ B w0 T v n E) (c : Option Blk) : RdQ B w0 (c :: T) v n E := by
 obtain ⟨ao, cp, h1, h2⟩ := h
 exact ⟨ao, cp, h1, fun w hO => h2 w hO.tail⟩
theorem RdQ.old {B : Nat} {w0 : World} {T : List (Option Blk)} {ao : Option Addr} {n m c : Nat} {E : Int → Int} (h : IAt B w0 ao n (fun j => iv (E j))) (hm : m ≤ n) : RdQ B w0 T (.slice ao m c) m E := ⟨ao, c, rfl, fun _ hO => (hO.iatF h).take hm⟩
theorem RdQ.tab {B : Nat} {w0 w : World} {T : List (Option Blk)} {n : Nat} {rv : Int → Value} {L : Int → Nat} {E : Int → Int → Int} {ao : Option Addr} (hr : ∀ r : Int, 0 ≤ r → r < n → RdQ B w0 T (rv r) (L r) (E r)) (ho : IAt w.heap.size w ao n rv) (hT : Own B w0 w T) : ITab w.heap.size w ao n L (fun r c => iv (E r c)) := by
 have hv : ∀ r : Int, ∃ p : Option Addr × Nat, 0 ≤ r → r < n → rv r = .slice p.1 (L r) p.2 ∧ IAt w.heap.size w p.1 (L r) (fun j => iv (E r j)) := fun r => by
  by_cases c : 0 ≤ r ∧ r < n
  ·obtain ⟨a, cp, h1, h2⟩ := hr r c.1 c.2
   exact ⟨(a, cp), fun _ _ => ⟨h1, h2 w hT⟩⟩
  ·exact ⟨(none, 0), fun a b => absurd ⟨a, b⟩ c⟩
 exact ⟨fun r => (Classical.choose (hv r)).1, fun r => (Classical.choose (hv r)).2, ho.congr fun r r0 r1 => (Classical.choose_spec (hv r) r0 r1).1, fun r r0 r1 => (Classical.choose_spec (hv r) r0 r1).2⟩
namespace Fair
structure CutS (f : Fair) (S : Int → Int → Prop) (bl : Int → Nat) : Prop where
 le : ∀ b : Int, 0 ≤ b → b < f.m → bl b ≤ f.bl b
 by_ : ∀ b i : Int, 0 ≤ b → b < f.m → S i b → f.rb b i < f.bl b → bl b ≤ f.rb b i
 ex : ∀ b : Int, 0 ≤ b → b < f.m → bl b = f.bl b ∨ ∃ i : Int, S i b ∧ f.rb b i < f.bl b ∧ (bl b : Int) = f.rb b i
theorem CutS.init {f : Fair} {S : Int → Int → Prop} (h : ∀ i b : Int, 0 ≤ b → b < f.m → ¬ S i b) : f.CutS S f.bl := ⟨fun b _ _ => Nat.le_refl _, fun b i b0 b1 hS => absurd hS (h i b b0 b1), fun b _ _ => .inl rfl⟩
theorem CutS.congr {f : Fair} {S S' : Int → Int → Prop} {bl : Int → Nat} (h : f.CutS S bl) (e : ∀ i b : Int, 0 ≤ b → b < f.m → (S' i b ↔ S i b)) : f.CutS S' bl :=
 ⟨h.le, fun b i b0 b1 hS => h.by_ b i b0 b1 ((e i b b0 b1).1 hS), fun b b0 b1 => (h.ex b b0 b1).imp id fun ⟨i, hS, h2⟩ => ⟨i, (e i b b0 b1).2 hS, h2⟩⟩
theorem CutS.take {f : Fair} {S S' : Int → Int → Prop} {bl : Int → Nat} (h : f.CutS S bl) {k b : Int} {r : Nat} (b0 : 0 ≤ b) (b1 : b < f.m) (hr : (r : Int) = f.rb b k) (hrl : f.rb b k < f.bl b) (e : ∀ i c : Int, 0 ≤ c → c < f.m → (S' i c ↔ S i c ∨ i = k ∧ c = b)) : f.CutS S' (upd bl b (min r (bl b))) := by
 refine ⟨fun c c0 c1 => ?_, fun c i c0 c1 hS hi => ?_, fun c c0 c1 => ?_⟩
 ·have := h.le c c0 c1
  by_cases ec : c = b
  ·rw [ec, upd_same]; rw [ec] at this; omega
  ·rw [upd_ne _ _ ec]; exact this
 ·by_cases ec : c = b
  ·rw [ec] at hS hi ⊢
   rw [upd_same]
   rcases (e i b b0 b1).1 hS with hS | ⟨ei, _⟩
   ·have := h.by_ b i b0 b1 hS hi; omega
   ·rw [ei]; omega
  ·rw [upd_ne _ _ ec]
   rcases (e i c c0 c1).1 hS with hS | ⟨_, e2⟩
   ·exact h.by_ c i c0 c1 hS hi
   ·exact absurd e2 ec
 ·by_cases ec : c = b
  ·rw [ec, upd_same]
   by_cases hle : r ≤ bl b
   ·exact .inr ⟨k, (e k b b0 b1).2 (.inr ⟨rfl, rfl⟩), hrl, by rw [Nat.min_eq_left hle]; exact hr⟩
   ·rw [Nat.min_eq_right (by omega)]
    exact (h.ex b b0 b1).imp id fun ⟨i, hS, h2⟩ => ⟨i, (e i b b0 b1).2 (.inl hS), h2⟩
  ·rw [upd_ne _ _ ec]
   exact (h.ex c c0 c1).imp id fun ⟨i, hS, h2⟩ => ⟨i, (e i c c0 c1).2 (.inl hS), h2⟩
theorem CutS.skip {f : Fair} {S S' : Int → Int → Prop} {bl : Int → Nat} (h : f.CutS S bl) {k b : Int} (hrl : ¬ f.rb b k < f.bl b) (e : ∀ i c : Int, 0 ≤ c → c < f.m → (S' i c ↔ S i c ∨ i = k ∧ c = b)) : f.CutS S' bl :=
 ⟨h.le, fun c i c0 c1 hS hi => by
  rcases (e i c c0 c1).1 hS with hS | ⟨e1, e2⟩
  ·exact h.by_ c i c0 c1 hS hi
  ·rw [e1, e2] at hi; exact absurd hi hrl, fun c c0 c1 => (h.ex c c0 c1).imp id fun ⟨i, hS, h2⟩ => ⟨i, (e i c c0 c1).2 (.inl hS), h2⟩⟩
def pre (f : Fair) (l : Int → Int) (k : Int) (i b : Int) : Prop := (0 ≤ i ∧ i < k) ∧ f.rg i b < f.rg i (l i)
def preJ (f : Fair) (l : Int → Int) (k j : Int) (i b : Int) : Prop := f.pre l k i b ∨ i = k ∧ f.rg k b < j
theorem CutS.cut {f : Fair} {l : Int → Int} {q : Int} {bl : Int → Nat} (h : f.CutS (f.pre l q) bl) : f.Cut l q bl :=
 ⟨h.le, fun b i b0 b1 i0 i1 h1 h2 => h.by_ b i b0 b1 ⟨⟨i0, i1⟩, h1⟩ h2, fun b b0 b1 => (h.ex b b0 b1).imp id fun ⟨i, ⟨h1, h2⟩, h3⟩ => ⟨i, h1, h2, h3⟩⟩
theorem preJ_step {f : Fair} (hf : f.Ok) {l : Int → Int} {k j : Int} (k0 : 0 ≤ k) (k1 : k < f.n) (j0 : 0 ≤ j) (j1 : j < f.gl k) : ∀ i c : Int, 0 ≤ c → c < f.m → (f.preJ l k (j + 1) i c ↔ f.preJ l k j i c ∨ i = k ∧ c = f.ge k j) := fun i c c0 c1 => by
 have hrk : f.rg k (f.ge k j) = j := rk_of (n := f.gl k) (hf.gd k k0 k1) j0 j1 rfl
 unfold preJ
 constructor
 ·rintro (h | ⟨h1, h2⟩)
  ·exact .inl (.inl h)
  ·by_cases e : f.rg k c = j
   ·exact .inr ⟨h1, rg_inj (by omega) (e.trans hrk.symm)⟩
   ·exact .inl (.inr ⟨h1, by omega⟩)
 ·rintro ((h | ⟨h1, h2⟩) | ⟨h1, h2⟩)
  ·exact .inl h
  ·exact .inr ⟨h1, by omega⟩
  ·exact .inr ⟨h1, by rw [h2, hrk]; omega⟩
theorem pre_next {f : Fair} {l : Int → Int} {k j : Int} (k0 : 0 ≤ k) (hj : j = f.rg k (l k)) : ∀ i c : Int, 0 ≤ c → c < f.m → (f.pre l (k + 1) i c ↔ f.preJ l k j i c) := fun i c _ _ => by
 unfold preJ pre
 constructor
 ·rintro ⟨⟨i0, i1⟩, h⟩
  by_cases e : i = k
  ·exact .inr ⟨e, by rw [hj]; rw [e] at h; exact h⟩
  ·exact .inl ⟨⟨i0, by omega⟩, h⟩
 ·rintro (⟨⟨i0, i1⟩, h⟩ | ⟨e, h⟩)
  ·exact ⟨⟨i0, by omega⟩, h⟩
  ·rw [e]; exact ⟨⟨k0, by omega⟩, by rw [← hj]; exact h⟩
end Fair
end Go.Proofs.YtlldeifbfpmbaaaGreat
set_option maxRecDepth 100000
namespace Go.Proofs.YtlldeifbfpmbaaaGreat
open Go.RowKit Go.Proofs
section
variable {P : Program} {N : Nat} {o : Oper} {F : Fr} {w : World} {T U : TypeId} {x y : Operand}
theorem nv {k : IntKind} {z z' : Int} (h : OpV P N o F w (.int k z)) (e : z = z') : OpV P N o F w (.int k z') := e ▸ h
theorem wM (a : Nat) : IntKind.u64.wrap (a : Int) = ((a % 18446744073709551616 : Nat) : Int) := by rw [IntKind.wrap_u64]; omega
theorem ov_shlU {a s : Nat} {k : IntKind} (ho : o.op = .binOp .shl T x y U) (hx : Fr.ev F x = some (.int .u64 (a : Int))) (hy : Fr.ev F y = some (.int k (s : Int))) (hs : s ≤ 64) : OpV P N o F w (.int .u64 ((a * 2 ^ s % 18446744073709551616 : Nat) : Int)) := by
 refine ov_bin ho hx hy ?_
 have h := shift_shl_u64 k (a : Int) (s : Int) (by omega) (by omega)
 rw [binOp_shl, h, Int.toNat_natCast, show ((a : Int) * 2 ^ s) = ((a * 2 ^ s : Nat) : Int) by rw [Int.natCast_mul, Int.natCast_pow]; rfl, wM]
 rfl
theorem ov_shrU {a s : Nat} {k : IntKind} (ho : o.op = .binOp .shr T x y U) (hx : Fr.ev F x = some (.int .u64 (a : Int))) (hy : Fr.ev F y = some (.int k (s : Int))) (hs : s ≤ 64) : OpV P N o F w (.int .u64 ((a / 2 ^ s : Nat) : Int)) := by
 refine ov_bin ho hx hy ?_
 have h := shift_shr_u64 k (a : Int) (s : Int) (by omega) (by omega)
 rw [binOp_shr, h, Int.toNat_natCast, show ((a : Int) / 2 ^ s) = ((a / 2 ^ s : Nat) : Int) by rw [Int.natCast_ediv, Int.natCast_pow]; rfl]
 rfl
theorem ov_shr32N {a : Nat} {k : IntKind} (ho : o.op = .binOp .shr T x y U) (hx : Fr.ev F x = some (.int .u64 (a : Int))) (hy : Fr.ev F y = some (.int k 32)) : OpV P N o F w (.int .u64 ((a / 4294967296 : Nat) : Int)) :=
 nv (ov_shr32 ho hx hy) (by omega)
end
section
variable {N : Nat} {o : Oper} {F : Fr} {w : World}
def len8 (x : Nat) : Nat := if x = 0 then 0 else if x < 2 then 1 else if x < 4 then 2 else if x < 8 then 3 else if x < 16 then 4 else if x < 32 then 5 else if x < 64 then 6 else if x < 128 then 7 else 8
theorem ov_len8 {o : Oper} {x : Operand} {T : TypeId} {s : ByteArray} {a : Nat} (ho : o.op = .index T (.const (.string s)) x) (hT : Tryz.prog.underlying T = some .string) (hs : (s.data.toList.map fun c => c.toNat) = (List.range 256).map len8) (hx : Fr.ev F x = some (.int .u8 (a : Int))) (ha : a < 256) :
  OpV Tryz.prog N o F w (.int .u8 ((len8 a : Nat) : Int)) := by
 intro st hst
 have hl : s.data.toList.length = 256 := by have := congrArg List.length hs; rw [List.length_map, List.length_map, List.length_range] at this; exact this
 have hsz : s.size = 256 := by rw [← hl]; rfl
 have h := run_index_string (P := Tryz.prog) (w := w) T s .u8 (a : Int) hT
 have e : (s[a]'(by omega)).toNat = len8 a := by
  have h1 := congrArg (fun l => l[a]?) hs
  have h2 : s.data.toList[a]? = some (s[a]'(by omega)) := by rw [Array.getElem?_toList]; exact Array.getElem?_eq_getElem (by rw [← Array.length_toList]; omega)
  simp only [List.getElem?_map, h2, List.getElem?_range ha, Option.map_some, Option.some.injEq] at h1
  exact h1
 rw [dif_pos ⟨by omega, by omega⟩] at h
 have e2 : (s[(a : Int).toNat]'(by omega)).toNat = len8 a := e
 rw [e2] at h
 unfold execOp
 have hf : Fr.ev F (.const (.string s)) = some (.string s) := rfl
 simp [ho, hst.ev hf, hst.ev hx, h, Result.andThen]
end
theorem len8_ok (x : Nat) (h : x < 256) : x < 2 ^ len8 x ∧ (0 < x → 2 ^ (len8 x - 1) ≤ x) ∧ len8 x ≤ 8 ∧ (0 < x → 1 ≤ len8 x) := by
 unfold len8
 repeat' split
 all_goals omega
theorem len_fin {x n3 x3 : Nat} (h : x / 2 ^ n3 = x3) (h0 : 0 < x3) (h2 : x3 < 256) : 2 ^ (n3 + len8 x3 - 1) ≤ x ∧ x < 2 ^ (n3 + len8 x3) := by
 obtain ⟨a1, a2, _, a4⟩ := len8_ok x3 h2
 have a2 := a2 h0
 have a4 := a4 h0
 have hp : 0 < 2 ^ n3 := Nat.two_pow_pos n3
 constructor
 ·rw [show n3 + len8 x3 - 1 = (len8 x3 - 1) + n3 by omega, Nat.pow_add]
  refine Nat.le_trans (Nat.mul_le_mul_right _ a2) ?_
  rw [← h]
  exact Nat.div_mul_le_self x _
 ·rw [Nat.add_comm, Nat.pow_add]
  refine Nat.lt_of_lt_of_le ((Nat.div_lt_iff_lt_mul hp).1 (show x / 2 ^ n3 < x3 + 1 by omega)) ?_
  exact Nat.mul_le_mul_right _ a1
theorem div_sh {x n x1 k : Nat} (h : x / 2 ^ n = x1) : x / 2 ^ (n + k) = x1 / 2 ^ k := by rw [← h, Nat.div_div_eq_div_mul, Nat.pow_add]
theorem len64_any (x : Nat) (w : World) (hx : 0 < x) (hx2 : x < 18446744073709551616) :
  Calls Tryz.prog 145 #[.int .u64 (x : Int)] w fun e w' => ∃ n : Nat, e = .returned (iv n) ∧ w' = w ∧ 1 ≤ n ∧ n ≤ 64 ∧ 2 ^ (n - 1) ≤ x ∧ x < 2 ^ n := by
 refine calls_of_run (F := [(0, _)]) Tryz.func145 rfl Tryz.ntmps145 rfl rfl ?_
 have hO0 := Own.init w
 refine run_seq <| run_region <| rl_v rfl rfl rfl (ov_assign rfl rfl) <| rl_nil <| run_seq <| run_seq <| run_region <| rl_v rfl rfl rfl (ov_move rfl rfl) <| rl_v rfl rfl rfl (ov_geq rfl rfl rfl) <| rl_nil <| Run.keep [0, 2, 4] (F' := [(0, _), (2, _), (4, _)]) rfl <| run_join2 (fun (x1 : Nat) (n1 : Nat) => [(0, .int .u64 (x1 : Int)), (2, .int .i64 n1)]) [] (fun (x1 : Nat) (n1 : Nat) (w1 : World) => w1 = w ∧ 0 < x1 ∧ x1 < 4294967296 ∧ (n1 = 0 ∨ n1 = 32) ∧ x / 2 ^ n1 = x1) (fun hk2 => ?_) ?_
 ·first | refine run_cond_dec rfl (fun c1 => ?_) (fun c1 => ?_) | refine run_cond rfl (fun c1 => ?_) (fun c1 => ?_)
  ·refine run_seq <| run_region <| rl_v rfl rfl rfl (ov_move rfl rfl) <| rl_v rfl rfl rfl (ov_shr32N rfl rfl rfl) <| rl_v rfl rfl rfl (ov_assign rfl rfl) <| rl_nil <| run_region <| rl_v rfl rfl rfl (ov_assign rfl rfl) <| rl_nil ?_
   refine Run.use (hk2 (x / 4294967296) (32) _ ?_) (And.intro (by exact slot_int rfl (by first | omega)) (And.intro (by exact slot_int rfl (by first | omega)) trivial))
   exact ⟨rfl, by omega, by omega, .inr rfl, rfl⟩
  ·refine run_skip ?_
   refine Run.use (hk2 (x) (0) _ ?_) (And.intro (by exact slot_int rfl (by first | omega)) (And.intro (by exact slot_int rfl (by first | omega)) trivial))
   exact ⟨rfl, hx, by omega, .inl rfl, by simp⟩
 ·intro x1 n1 w1 hJw1
  obtain ⟨hw, h1, h2, h3, h4⟩ := hJw1
  show Run _ _ _ _ [(0, _), (2, _)] _ _
  refine run_seq <| run_seq <| run_region <| rl_v rfl rfl rfl (ov_move rfl rfl) <| rl_v rfl rfl rfl (ov_geq rfl rfl rfl) <| rl_nil <| Run.keep [0, 2, 8] (F' := [(0, _), (2, _), (8, _)]) rfl <| run_join2 (fun (x2 : Nat) (n2 : Nat) => [(0, .int .u64 (x2 : Int)), (2, .int .i64 n2)]) [] (fun (x2 : Nat) (n2 : Nat) (w3 : World) => w3 = w ∧ 0 < x2 ∧ x2 < 65536 ∧ n2 ≤ 48 ∧ x / 2 ^ n2 = x2) (fun hk4 => ?_) ?_
  ·first | refine run_cond_dec rfl (fun c2 => ?_) (fun c2 => ?_) | refine run_cond rfl (fun c2 => ?_) (fun c2 => ?_)
   ·refine run_seq <| run_region <| rl_v rfl rfl rfl (ov_move rfl rfl) <| rl_v rfl rfl rfl (ov_shrU (s := 16) rfl rfl rfl (by omega)) ?_
    refine rl_v rfl rfl rfl (ov_assign rfl rfl) <| rl_nil <| run_region <| rl_v rfl rfl rfl (ov_move rfl rfl) <| rl_v rfl rfl rfl (ov_add rfl rfl rfl (by omega)) ?_
    refine rl_v rfl rfl rfl (ov_assign rfl rfl) <| rl_nil ?_
    refine Run.use (hk4 (x1 / 2 ^ 16) (n1 + 16) _ ?_) (And.intro (by exact slot_int rfl (by first | omega)) (And.intro (by exact slot_int rfl (by first | omega)) trivial))
    exact ⟨hw, by omega, by omega, by omega, div_sh h4⟩
   ·refine run_skip ?_
    refine Run.use (hk4 (x1) (n1) _ ?_) (And.intro (by exact slot_int rfl (by first | omega)) (And.intro (by exact slot_int rfl (by first | omega)) trivial))
    exact ⟨hw, h1, by omega, by omega, h4⟩
  ·intro x2 n2 w3 hJw3
   obtain ⟨hw, g1, g2, g3, g4⟩ := hJw3
   show Run _ _ _ _ [(0, _), (2, _)] _ _
   refine run_seq <| run_seq <| run_region <| rl_v rfl rfl rfl (ov_move rfl rfl) <| rl_v rfl rfl rfl (ov_geq rfl rfl rfl) <| rl_nil <| Run.keep [0, 2, 14] (F' := [(0, _), (2, _), (14, _)]) rfl <| run_join2 (fun (x3 : Nat) (n3 : Nat) => [(0, .int .u64 (x3 : Int)), (2, .int .i64 n3)]) [] (fun (x3 : Nat) (n3 : Nat) (w5 : World) => w5 = w ∧ 0 < x3 ∧ x3 < 256 ∧ n3 ≤ 56 ∧ x / 2 ^ n3 = x3) (fun hk6 => ?_) ?_
   ·first | refine run_cond_dec rfl (fun c3 => ?_) (fun c3 => ?_) | refine run_cond rfl (fun c3 => ?_) (fun c3 => ?_)
    ·refine run_seq <| run_region <| rl_v rfl rfl rfl (ov_move rfl rfl) <| rl_v rfl rfl rfl (ov_shrU (s := 8) rfl rfl rfl (by omega)) ?_
     refine rl_v rfl rfl rfl (ov_assign rfl rfl) <| rl_nil <| run_region <| rl_v rfl rfl rfl (ov_move rfl rfl) <| rl_v rfl rfl rfl (ov_add rfl rfl rfl (by omega)) ?_
     refine rl_v rfl rfl rfl (ov_assign rfl rfl) <| rl_nil ?_
     refine Run.use (hk6 (x2 / 2 ^ 8) (n2 + 8) _ ?_) (And.intro (by exact slot_int rfl (by first | omega)) (And.intro (by exact slot_int rfl (by first | omega)) trivial))
     exact ⟨hw, by omega, by omega, by omega, div_sh g4⟩
    ·refine run_skip ?_
     refine Run.use (hk6 (x2) (n2) _ ?_) (And.intro (by exact slot_int rfl (by first | omega)) (And.intro (by exact slot_int rfl (by first | omega)) trivial))
     exact ⟨hw, g1, by omega, by omega, g4⟩
   ·intro x3 n3 w5 hJw5
    obtain ⟨hw, k1, k2, k3, k4⟩ := hJw5
    show Run _ _ _ _ [(0, _), (2, _)] _ _
    have hf := len_fin k4 k1 k2
    have hk := len8_ok x3 k2
    have hk4 := hk.2.2.2 k1
    refine run_seq <| run_region <| rl_v rfl rfl rfl (ov_move rfl rfl) <| rl_v rfl rfl rfl (ov_move rfl rfl) <| rl_v rfl rfl rfl (nv (ov_conv rfl Tryz.underlying106 Tryz.underlying5 rfl) (show IntKind.u8.wrap (x3 : Int) = (x3 : Int) from IntWalk.u8_in _ (by omega))) ?_
    refine rl_v rfl rfl rfl (ov_len8 rfl Tryz.underlying9 (by kernel_rfl) rfl k2) ?_
    refine rl_v rfl rfl rfl (nv (ov_conv rfl Tryz.underlying5 Tryz.underlying3 rfl) (show IntKind.i64.wrap ((len8 x3 : Nat) : Int) = ((len8 x3 : Nat) : Int) from IntWalk.i64_in _ (by omega))) ?_
    refine rl_v rfl rfl rfl (ov_add rfl rfl rfl (by omega)) ?_
    refine rl_v rfl rfl rfl (ov_assign rfl rfl) <| rl_nil <| run_ret Tryz.func145 (res1 Tryz.results145 rfl) ?_
    exact ⟨n3 + len8 x3, by rw [Int.natCast_add], hw, by omega, by omega, hf.1, hf.2⟩
end Go.Proofs.YtlldeifbfpmbaaaGreat
