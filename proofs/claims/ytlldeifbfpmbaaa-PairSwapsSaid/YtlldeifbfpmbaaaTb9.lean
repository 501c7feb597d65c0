import Derived.Test.YtlldeifbfpmbaaaMaps
import Derived.Test.YtlldeifbfpmbaaaRul
set_option maxRecDepth 100000
namespace Go.Proofs.Ytlldeifbfpmbaaa
open Go.RowKit Go.Proofs
theorem IRow.addr {ao : Option Addr} {m cap : Nat} {E : TypeId} {n : Nat} {G : Int → Value} {c : Option Blk} (h : IRow (.slice ao m cap) E n G c) : ∃ b, (0 < n → ao = some ⟨b, 0, none⟩) := by
 rcases h with ⟨_, rfl, _⟩ | ⟨b, cap', g, h1, _⟩
 ·exact ⟨0, fun h => absurd h (Nat.lt_irrefl _)⟩
 ·cases h1; exact ⟨b, fun _ => rfl⟩
theorem ow_storeI1 {N : Nat} {o : Oper} {F : Fr} {w w0 : World} {B : Nat} {H : List (Option Blk)} {T E : TypeId} {p x : Operand} {b n cap : Nat} {G : Int → Value} {c : Option Blk} {ao : Option Addr} {i : Int} {v : Value} (hd : o.dst = none) (ho : o.op = .store T p x) (hi : (Try.prog.info? T).map (·.size) = some 1)
  (hO : Own B w0 w H) (kk : Nat) (hr : IRow (.slice ao n cap) E n G c) (hk : H[kk]? = some c) (hao : 0 < n → ao = some ⟨b, 0, none⟩) (hp : Fr.ev F p = some (.pointer (some ⟨b, 0 + i.toNat, none⟩))) (hb : 0 ≤ i ∧ i < n)
  (hx : Fr.ev F x = some v) (h1 : v.oneCell' = true) :
  OpW Try.prog N o F w (fun F' w' => ∃ c', F' = F ∧ Own B w0 w' (H.set kk c') ∧ IRow (.slice ao n cap) E n (upd G i v) c' ∧ w'.heap.size = w.heap.size) := by
 obtain ⟨b', G', e1, e2, e3, rfl, e5⟩ := hr.asV (by omega)
 have := (hao (by omega)).symm.trans e1
 simp only [Option.some.injEq, Addr.mk.injEq] at this
 obtain rfl := this.1
 refine (ow_store hd ho hi hO kk hk hp ⟨hb.1, by omega⟩ hx h1).mono fun F' w' ⟨q1, q2, q3⟩ => ⟨_, q1, q2, ?_, q3⟩
 rw [e1]
 refine IRow.ofV e2 e3 fun j j0 j1 => ?_
 by_cases e : j = i
 ·subst e; simp
 ·rw [upd_ne _ _ e, upd_ne _ _ e]; exact e5 j j0 j1
end Go.Proofs.Ytlldeifbfpmbaaa
set_option maxRecDepth 100000
namespace Go.Proofs.Ytlldeifbfpmbaaa
open Go.RowKit Go.Proofs
theorem OTab.put9 {B : Nat} {w0 w : World} {v x : Value} {T1 T2 : TypeId} {n m : Nat} {L : Int → Nat} {F : Int → Int → Value} {G : Int → Value} {R : List (Option Blk)} {c cr : Option Blk} {rv : Int → Value} {ch : Nat → Option Blk} (i : Nat) (hi : i < n)
  (hv : IRow v T1 n (upd rv i x) c) (h3 : ∀ r : Nat, r < n → IRow (rv r) T2 (L r) (F r) (ch r)) (hx : IRow x T2 m G cr) (ho : Own B w0 w (cr :: c :: (((List.range n).erase i).map ch ++ R))) :
  ∃ H, OTab v T1 T2 n (upd L i m) (upd F i G) H ∧ Own B w0 w (H ++ R) := by
 refine ⟨_, ⟨c, _, fun r => if r = i then cr else ch r, rfl, hv, fun r hr => ?_⟩, ho.perm ?_⟩
 ·show IRow _ _ _ _ (if r = i then cr else ch r)
  by_cases e : r = i
  ·subst e; rw [upd_same, upd_same, upd_same, if_pos rfl]; exact hx
  ·rw [upd_ne _ _ (by omega), upd_ne _ _ (by omega), upd_ne _ _ (by omega), if_neg e]; exact h3 r hr
 ·have p := (List.perm_cons_erase (List.mem_range.2 hi)).map (fun r => if r = i then cr else ch r)
  have e : ((List.range n).erase i).map (fun r => if r = i then cr else ch r) = ((List.range n).erase i).map ch := List.map_congr_left fun r hr => by
   have : r ≠ i := fun e => by rw [e] at hr; exact (List.Nodup.not_mem_erase List.nodup_range) hr
   exact if_neg this
  simp only [List.map_cons, if_true, e] at p
  exact (List.Perm.swap _ _ _).trans ((p.symm.append_right R).cons c)
end Go.Proofs.Ytlldeifbfpmbaaa
