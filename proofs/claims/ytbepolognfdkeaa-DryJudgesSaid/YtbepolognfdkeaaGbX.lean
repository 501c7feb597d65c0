import Derived.Test.YtbepolognfdkeaaGbT
set_option maxRecDepth 100000
namespace Go.Proofs.Ytbepolognfdkeaa
open Go.RowKit Go.Proofs Go.MapKept
theorem ov_neqB7 {P : Program} {N : Nat} {o : Oper} {F : Fr} {w : World} {T U : TypeId} {x y : Operand} {a b : Bool} (ho : o.op = .binOp .neq T x y U) (hT : P.underlying T = some .bool) (hx : Fr.ev F x = some (.bool a)) (hy : Fr.ev F y = some (.bool b)) : OpV P N o F w (.bool (decide (a ≠ b))) := by
 intro r hr
 unfold execOp
 have h1 := run_equal_bool (P := P) w T a b hT
 have e : (!(a == b)) = decide (a ≠ b) := by cases a <;> cases b <;> rfl
 simp only [ho, hr.ev hx, hr.ev hy, Sem.run_bind, eqGuard]
 simp [binOp, h1, Result.andThen, e]
namespace Lds
noncomputable def own (l : Lds) (most : Nat) (s : Bool) : Lds := (l.tame s).cut (min l.n most)
theorem own_valid (l : Lds) (most : Nat) (s : Bool) : (l.own most s).Valid := fun i i0 i1 => l.tame_valid s i i0 (by have h : i < ((min l.n most : Nat) : Int) := i1; show i < (l.n : Int); omega)
theorem own_le (l : Lds) (most : Nat) (s : Bool) : (l.own most s).n ≤ most := Nat.min_le_right _ _
theorem Valid.i64 {l : Lds} (h : l.Valid) : l.I64 := by
 refine ⟨fun i a b => ?_, fun i a b => ?_, fun i a b => ?_, fun i a b => ?_⟩ <;> (have := h i a b; unfold Val at this; omega)
end Lds
theorem own7_any (la : Option Addr) (lc : Nat) (l : Lds) (most : Nat) (s : Bool) (w : World) (hc : l.n ≤ lc) (hm : most ≤ 1000) (hI : l.I64) (hl : SAt w.heap.size w la 4 l.n (ldF l)) :
  Calls Try.prog 13 #[.slice la l.n lc, iv most, .bool s] w fun e w' => ∃ (va : Option Addr) (vc : Nat) (c : Option Blk), e = .returned (.slice va (l.own most s).n vc) ∧ SRow (.slice va (l.own most s).n vc) 72 4 (l.own most s).n (ldF (l.own most s)) c ∧ Own w.heap.size w w' [c] :=
 tame7_any la lc l most s w hc hm hI hl
end Go.Proofs.Ytbepolognfdkeaa
