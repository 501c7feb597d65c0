import Derived.Test.YtlldeifbfpmbaaaMaps
import Derived.Test.YtlldeifbfpmbaaaRul
set_option maxRecDepth 100000
namespace Go.Proofs.Ytlldeifbfpmbaaa
open Go.RowKit Go.Proofs
theorem perm_mid {α : Type} (x : α) (M T : List α) : (x :: (M ++ T)).Perm (M ++ x :: T) := List.perm_middle.symm
theorem perm_mid2 {α : Type} (x : α) (M N R : List α) : (x :: (M ++ (N ++ R))).Perm (M ++ (N ++ x :: R)) := by
 have h := perm_mid x (M ++ N) R
 simpa [List.append_assoc] using h
theorem IRow.addr {ao : Option Addr} {m cap : Nat} {E : TypeId} {n : Nat} {G : Int → Value} {c : Option Blk} (h : IRow (.slice ao m cap) E n G c) : ∃ b, (0 < n → ao = some ⟨b, 0, none⟩) := by
 rcases h with ⟨_, rfl, _⟩ | ⟨b, cap', g, h1, _⟩
 ·exact ⟨0, fun h => absurd h (Nat.lt_irrefl _)⟩
 ·cases h1; exact ⟨b, fun _ => rfl⟩
theorem ow_storeI1 {N : Nat} {o : Oper} {F : Fr} {w w0 : World} {B : Nat} {H : List (Option Blk)} {T E : TypeId} {p x : Operand} {b n cap : Nat} {G : Int → Value} {c : Option Blk} {ao : Option Addr} {i : Int} {v : Value} (hd : o.dst = none) (ho : o.op = .store T p x) (hi : (Try.prog.info? T).map (·.size) = some 1)
  (hO : Own B w0 w H) (kk : Nat) (hr : IRow (.slice ao n cap) E n G c) (hk : H[kk]? = some c) (hao : 0 < n → ao = some ⟨b, 0, none⟩) (hp : Fr.ev F p = some (.pointer (some ⟨b, 0 + i.toNat, none⟩))) (hb : 0 ≤ i ∧ i < n)
  (hx : Fr.ev F x = some v) (h1 : v.oneCell' = true) :
  OpW Try.prog N o F w (fun F' w' => ∃ c', F' = F ∧ Own B w0 w' (H.set kk c') ∧ IRow (.slice ao n cap) E n (upd G i v) c' ∧ w'.heap.size = w.heap.size) := by
 obtain ⟨b', G', e1, e2, e3, rfl, e5⟩ := hr.asV (by omega)
 have := (hao (by omega)).symm.trans e1
 simp only [Option.some.injEq, Addr.mk.injEq] at this
 obtain rfl := this.1
 refine (ow_store hd ho hi hO kk hk hp ⟨hb.1, by omega⟩ hx h1).mono fun F' w' ⟨q1, q2, q3⟩ => ⟨_, q1, q2, ?_, q3⟩
 rw [e1]
 refine IRow.ofV e2 e3 fun j j0 j1 => ?_
 by_cases e : j = i
 ·subst e; simp
 ·rw [upd_ne _ _ e, upd_ne _ _ e]; exact e5 j j0 j1
end Go.Proofs.Ytlldeifbfpmbaaa
