import Derived.Test.YtijffdhailddoaaHeld
import Derived.Deep.Quiet
import Derived.Test.YtijffdhailddoaaTab
import Derived.Test.YtijffdhailddoaaFacts
namespace Go.Proofs.Ytijffdhailddoaa
open Go.RowKit
section
variable {P : Program} {f N : Nat} {k : List Item} {F : Fr} {w : World} {R : Ending → World → Prop} {ops : Array Oper} {o : Oper} {rest : List Oper} {C : World → Prop}
theorem rl_no (g : Nat) {b : Bool} {l : List Oper} (hb : Fr.get F g = some (.bool b)) (h : b = false) (hf : RL P f N ops l k ((g, .bool false) :: F) w R) : RL P f N ops l k F w R :=
 rl_split g hb (fun e => by rw [h] at e; cases e) (fun _ => hf)
theorem rl_noD (g : Nat) {p : Prop} {dp : Decidable p} {l : List Oper} (hb : Fr.get F g = some (.bool (decide p))) (h : ¬ p) (hf : RL P f N ops l k ((g, .bool false) :: F) w R) : RL P f N ops l k F w R :=
 rl_split_dec g hb (fun e => absurd e h) (fun _ => hf)
theorem rl_yesD (g : Nat) {p : Prop} {dp : Decidable p} {l : List Oper} (hb : Fr.get F g = some (.bool (decide p))) (h : p) (hf : RL P f N ops l k ((g, .bool true) :: F) w R) : RL P f N ops l k F w R :=
 rl_split_dec g hb (fun _ => hf) (fun e => absurd h e)
end
end Go.Proofs.Ytijffdhailddoaa
namespace Go.Proofs.Ytijffdhailddoaa
open Go.RowKit Go.Proofs
theorem mod_le (v t : Int) (ht : 0 ≤ t) (h2 : t ≤ 1000000) : 0 ≤ IntKind.i64.wrap (IntKind.u64.wrap v % IntKind.u64.wrap (t + 1)) ∧ IntKind.i64.wrap (IntKind.u64.wrap v % IntKind.u64.wrap (t + 1)) ≤ t := by
 have e : IntKind.u64.wrap (t + 1) = t + 1 := IntWalk.u64_in _ (by omega)
 rw [e]
 have h3 := Int.emod_lt_of_pos (IntKind.u64.wrap v) (show 0 < t + 1 by omega)
 have h4 := Int.emod_nonneg (IntKind.u64.wrap v) (show t + 1 ≠ 0 by omega)
 rw [IntWalk.i64_in _ (by omega)]
 omega
theorem wrap_u64_pos (t : Int) (ht : 0 ≤ t) (h2 : t ≤ 1000000) : IntKind.u64.wrap (t + 1) ≠ 0 := by
 rw [IntWalk.u64_in _ (by omega)]; omega
end Go.Proofs.Ytijffdhailddoaa
