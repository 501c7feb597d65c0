import Derived.Test.YteagflekbbchhaaReJ
set_option maxRecDepth 100000
namespace Go.Proofs.Yteagflekbbchhaa
open Go.RowKit Go.Proofs
section
variable {P : Program} {N : Nat} {o : Oper} {F : Fr} {w : World}
theorem ov_ptrnot {T U E : TypeId} {x : Operand} {ad : Option Addr} (ho : o.op = .binOp .neq T x (.const (.pointer none)) U) (hT : P.underlying T = some (.pointer E)) (hx : Fr.ev F x = some (.pointer ad)) : OpV P N o F w (.bool (!ad.isNone)) := by
 intro a ha
 have hn : a.eval (.const (.pointer none)) = .pointer none := rfl
 have h0 : (Op.equal T (.pointer ad) (.pointer none)).run P w = .ok ad.isNone w := by
  unfold Op.equal Op.maxDepth Op.equalIn
  rw [Sem.run_bind, run_underlying hT]
  cases ad <;> simp [Result.andThen]
 unfold execOp
 simp only [ho, ha.ev hx, hn, Sem.run_bind, eqGuard]
 simp [binOp, h0, Result.andThen]
end
theorem built_ref (mem pat : Int) (s1 s2 : Option Addr) (n1 c1 n2 c2 : Nat) : Try.prog.built 69 [(0, .agg #[iv mem, iv pat, .slice s1 n1 c1, .slice s2 n2 c2])] = some #[iv mem, iv pat, .slice s1 n1 c1, .slice s2 n2 c2, .slice none 0 0, .slice none 0 0, .slice none 0 0,
  .slice none 0 0, iv 0, .bool false, .bool false, iv 0, .slice none 0 0, iv 0, .bool false, .bool false, iv 0, .slice none 0 0, iv 0, .bool false, .bool false, iv 0] := by kernel_rfl
theorem ov_buildRef {N : Nat} {o : Oper} {F : Fr} {w : World} {x : Operand} {mem pat : Int} {s1 s2 : Option Addr} {n1 c1 n2 c2 : Nat} (ho : o.op = .build 69 #[(0, x)]) (hx : Fr.ev F x = some (.agg #[iv mem, iv pat, .slice s1 n1 c1, .slice s2 n2 c2])) :
  OpV Try.prog N o F w (.agg #[iv mem, iv pat, .slice s1 n1 c1, .slice s2 n2 c2, .slice none 0 0, .slice none 0 0, .slice none 0 0,
  .slice none 0 0, iv 0, .bool false, .bool false, iv 0, .slice none 0 0, iv 0, .bool false, .bool false, iv 0, .slice none 0 0, iv 0, .bool false, .bool false, iv 0]) := by
 intro st ha
 have := run_build (P := Try.prog) w 69 #[(0, st.eval x)] _ (by rw [ha.ev hx]; exact built_ref mem pat s1 s2 n1 c1 n2 c2)
 unfold execOp
 rw [ho]
 simp [this, Result.andThen]
def RK.new (s1 : Option Addr) (z1 : Nat) (s2 : Option Addr) (z2 : Nat) : RK := ⟨s1, z1, s2, z2, none, 0, none, 0, none, 0, none, 0, none, 0, none, 0, none, none, none, none, none, none⟩
theorem XIn.new {N : List (Option Blk)} {mem pat : Int} {f1 f2 : List Int} {s1 s2 : Option Addr} {z1 z2 : Nat} {c1 c2 : Option Blk} (h1 : IRow (.slice s1 f1.length z1) 2 f1.length (fun i => iv (gl f1 i)) c1) (h2 : IRow (.slice s2 f2.length z2) 2 f2.length (fun i => iv (gl f2 i)) c2) (m1 : c1 ∈ N) (m2 : c2 ∈ N) :
  XIn N (MW.init mem pat f1 f2) (RK.new s1 z1 s2 z2) :=
 ⟨PRow.of_irow h1 m1, PRow.of_irow h2 m2, PRow.nil _ _ _, PRow.nil _ _ _, PRow.nil _ _ _, fun n hn => by rcases hn with rfl | rfl | rfl <;> exact PRow.nil _ _ _⟩
theorem rnew_any (mem pat : Int) (f1 f2 : List Int) (s1 s2 : Option Addr) (z1 z2 B : Nat) (H : List (Option Blk)) (w0 w : World) (hO : Own B w0 w H) :
  Calls Try.prog 39 #[.agg #[iv mem, iv pat, .slice s1 f1.length z1, .slice s2 f2.length z2]] w fun e w' => e = .returned (rwv (MW.init mem pat f1 f2) (RK.new s1 z1 s2 z2)) ∧ Own B w0 w' H := by
 refine calls_of_run (F := [(0, _)]) Try.func39 rfl Try.ntmps39 rfl rfl <| run_seq <| run_region <| rl_ow rfl (ow_box _ rfl rfl rfl rfl rfl hO) ?_
 rintro _ w1 ⟨b1, rfl, hO2, hs3⟩
 refine rl_ow rfl (ow_alloc _ rfl rfl rfl zero_69 rfl hO2) ?_
 rintro _ w4 ⟨b2, rfl, hO5, hs6⟩
 refine rl_nil <| run_seq <| run_region <| rl_v rfl rfl rfl (ov_loadW rfl Try.underlying24 rfl (by kernel_rfl) rfl hO5 1 rfl) ?_
 refine rl_v rfl rfl rfl (ov_buildRef rfl rfl) <| rl_ow rfl (ow_storeW rfl rfl (by kernel_rfl) hO5 0 rfl rfl (by rfl) rfl (by rfl)) ?_
 rintro _ w7 ⟨rfl, hO8, hs9⟩
 refine rl_nil <| run_ret Try.func39 (resW Try.results39 rfl Try.underlying69 rfl (by kernel_rfl) hO8 0 rfl) ?_
 exact ⟨rfl, hO8.tail.tail⟩
end Go.Proofs.Yteagflekbbchhaa
