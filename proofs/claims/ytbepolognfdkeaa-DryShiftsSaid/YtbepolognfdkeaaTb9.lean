import Derived.Test.YtbepolognfdkeaaMaps
set_option maxRecDepth 100000
namespace Go.Proofs.Ytbepolognfdkeaa
open Go.RowKit Go.Proofs
abbrev iv (n : Int) : Value := .int .i64 n
abbrev ptr (b : Nat) : Value := .pointer (some ⟨b, 0, none⟩)
def SrcI (H : List (Option Blk)) (ao : Option Addr) (n : Nat) (g : Int → Int) : Prop := ∀ (B : Nat) (w0 w : World), Own B w0 w H → IAt w.heap.size w ao n (fun i => iv (g i))
section
variable {P : Program} {f N : Nat} {k : List Item} {F : Fr} {w : World} {R : Ending → World → Prop} {o : Oper} {B : Nat} {w0 : World} {H : List (Option Blk)}
theorem run_once {c : Code} (h : Run P f N (.code c :: .inLoop c :: k) F w R) : Run P f N (.code (.loop c) :: k) F w R := fun a ha => RunA.of_step (fun _ => .one step_loop) (h a ha)
theorem run_again {c : Code} (h : Run P f N (.code c :: .inLoop c :: k) F w R) : Run P f N (.inLoop c :: k) F w R := fun a ha => RunA.of_step (fun _ => .one step_inLoop) (h a ha)
theorem ow_storeS {T E : TypeId} {p x : Operand} {b n cap kk s : Nat} {G : Int → List Value} {c : Option Blk} {ao : Option Addr} {i : Int} {us : List Value} (hd : o.dst = none) (ho : o.op = .store T p x) (hi : (P.info? T).map (·.size) = some us.length)
  (hO : Own B w0 w H) (hr : SRow (.slice ao n cap) E s n G c) (hk : H[kk]? = some c) (hao : 0 < n → ao = some ⟨b, 0, none⟩) (hp : Fr.ev F p = some (.pointer (some ⟨b, 0 + i.toNat * s, none⟩))) (hb : 0 ≤ i ∧ i < n) (hl : us.length = s)
  (hx : Fr.ev F x = some (.agg us.toArray)) (h1 : us.all (·.oneCell') = true) :
  OpW P N o F w (fun F' w' => ∃ c', F' = F ∧ Own B w0 w' (H.set kk c') ∧ SRow (.slice ao n cap) E s n (upd G i us) c' ∧ w'.heap.size = w.heap.size) := by
 rcases hr with ⟨h, rfl, rfl⟩ | ⟨b', cap', g, h, h2, h3, rfl, h5⟩
 ·omega
 cases h
 have := hao (by omega)
 simp only [Option.some.injEq, Addr.mk.injEq] at this
 obtain rfl := this.1
 have hin : i.toNat < n := by omega
 have hfit : i.toNat * s + s ≤ cap * s := by
  have := Nat.mul_le_mul_right s (show i.toNat + 1 ≤ cap by omega)
  rw [Nat.add_mul] at this; omega
 refine (ow_u (w' := w.setCells b' (0 + i.toNat * s) us) hd (fun a ha => ?_)).mono fun F' w' ⟨e1, e2⟩ => ⟨some ⟨b', E, cap * s, fun j => if 0 + i.toNat * s ≤ j ∧ j < 0 + i.toNat * s + us.length then us.getD (j - (0 + i.toNat * s)) undef else g j, none⟩, e1, by rw [e2]; exact hO.storeN us kk hk (0 + i.toNat * s), .inr ⟨b', cap, _, rfl, h2, h3, rfl, fun j hj => ?_⟩, by rw [e2]; exact size_setCells _ _ _ _⟩
 ·have hrun := run_storeAt_mid (P := P) w b' (0 + i.toNat * s) T us.toArray (fun j hj => by
   have hj' : j < us.length := by simpa using hj
   have hlt : 0 + i.toNat * s + j < cap * s := by omega
   exact ⟨Option.isSome_iff_exists.2 ⟨_, hO.cell kk hk _ hlt⟩, (hO.get kk hk).frozen _⟩) (by simpa using hi) (by simpa using h1)
  unfold execOp
  simp only [ho, ha.ev hp, ha.ev hx, Sem.run_bind, hrun, Result.andThen_ok, Sem.run_pure]
 ·have hs : 0 < s := Nat.pos_of_ne_zero fun e => by subst e; simp at hj
  have hdm := Nat.div_add_mod j s
  rw [Nat.mul_comm] at hdm
  have hm := Nat.mod_lt j hs
  dsimp only
  by_cases e : j / s = i.toNat
  ·have e2 : ((j / s : Nat) : Int) = i := by omega
   rw [e] at hdm
   rw [e2, upd_same, if_pos (by omega), show j - (0 + i.toNat * s) = j % s by omega]
  ·have e2 : ((j / s : Nat) : Int) ≠ i := by omega
   rw [upd_ne _ _ e2, if_neg, h5 j hj]
   intro ⟨c1, c2⟩
   have q1 : i.toNat ≤ j / s := (Nat.le_div_iff_mul_le hs).2 (by omega)
   have q2 : j / s < i.toNat + 1 := Nat.div_lt_of_lt_mul (by rw [Nat.mul_comm, Nat.add_mul]; omega)
   omega
end
theorem resW2 {P : Program} {N : Nat} {F : Fr} {w : World} {fn : Func} {t u ty : Nat} {b B : Nat} {t2 : TypeId} {w0 : World} {H : List (Option Blk)} {dd : TypeDesc} {vs : List Value} {x : Value} (hr : fn.results = #[.cell t ty, .tmp u]) (hv : Fr.get F t = some (.pointer (some ⟨b, 0, none⟩))) (hx : Fr.get F u = some x)
  (hT : P.underlying ty = some dd) (hd : dd.isRow = true) (hi : (P.info? ty).map (·.size) = some vs.length) (hO : Own B w0 w H) (k : Nat) (hk : H[k]? = some (some (lch b t2 vs))) : ∀ a, Holds N F a → (results fn a.tmps).run P w = .ok (.tuple #[.agg vs.toArray, x]) w := by
 intro a ha
 have h1 := ha.at_ t _ hv
 have h3 := ha.at_ u _ hx
 have h2 := run_loadVar_mid (P := P) w b 0 ty vs dd (hO.rangeL k hk) hT hd hi
 simp [results, hr, Array.getD_eq_getD_getElem?, h1, h3, asAddr, h2, Result.andThen]
end Go.Proofs.Ytbepolognfdkeaa
set_option maxRecDepth 100000
namespace Go.Proofs.Ytbepolognfdkeaa
open Go.RowKit Go.Proofs
theorem SRow.addr {ao : Option Addr} {m cap : Nat} {E : TypeId} {s n : Nat} {G : Int → List Value} {c : Option Blk} (h : SRow (.slice ao m cap) E s n G c) : ∃ b, (0 < n → ao = some ⟨b, 0, none⟩) := by
 rcases h with ⟨_, rfl, _⟩ | ⟨b, cap', g, h1, _⟩
 ·exact ⟨0, fun h => absurd h (Nat.lt_irrefl _)⟩
 ·cases h1; exact ⟨b, fun _ => rfl⟩
theorem IRow.addr {ao : Option Addr} {m cap : Nat} {E : TypeId} {n : Nat} {G : Int → Value} {c : Option Blk} (h : IRow (.slice ao m cap) E n G c) : ∃ b, (0 < n → ao = some ⟨b, 0, none⟩) := by
 rcases h with ⟨_, rfl, _⟩ | ⟨b, cap', g, h1, _⟩
 ·exact ⟨0, fun h => absurd h (Nat.lt_irrefl _)⟩
 ·cases h1; exact ⟨b, fun _ => rfl⟩
theorem ow_storeI1 {N : Nat} {o : Oper} {F : Fr} {w w0 : World} {B : Nat} {H : List (Option Blk)} {T E : TypeId} {p x : Operand} {b n cap : Nat} {G : Int → Value} {c : Option Blk} {ao : Option Addr} {i : Int} {v : Value} (hd : o.dst = none) (ho : o.op = .store T p x) (hi : (Try.prog.info? T).map (·.size) = some 1)
  (hO : Own B w0 w H) (kk : Nat) (hr : IRow (.slice ao n cap) E n G c) (hk : H[kk]? = some c) (hao : 0 < n → ao = some ⟨b, 0, none⟩) (hp : Fr.ev F p = some (.pointer (some ⟨b, 0 + i.toNat, none⟩))) (hb : 0 ≤ i ∧ i < n)
  (hx : Fr.ev F x = some v) (h1 : v.oneCell' = true) :
  OpW Try.prog N o F w (fun F' w' => ∃ c', F' = F ∧ Own B w0 w' (H.set kk c') ∧ IRow (.slice ao n cap) E n (upd G i v) c' ∧ w'.heap.size = w.heap.size) := by
 obtain ⟨b', G', e1, e2, e3, rfl, e5⟩ := hr.asV (by omega)
 have := (hao (by omega)).symm.trans e1
 simp only [Option.some.injEq, Addr.mk.injEq] at this
 obtain rfl := this.1
 refine (ow_store hd ho hi hO kk hk hp ⟨hb.1, by omega⟩ hx h1).mono fun F' w' ⟨q1, q2, q3⟩ => ⟨_, q1, q2, ?_, q3⟩
 rw [e1]
 refine IRow.ofV e2 e3 fun j j0 j1 => ?_
 by_cases e : j = i
 ·subst e; simp
 ·rw [upd_ne _ _ e, upd_ne _ _ e]; exact e5 j j0 j1
end Go.Proofs.Ytbepolognfdkeaa
set_option maxRecDepth 100000
namespace Go.Proofs.Ytbepolognfdkeaa
open Go.RowKit Go.Proofs
theorem OTab.put9 {B : Nat} {w0 w : World} {v x : Value} {T1 T2 : TypeId} {n m : Nat} {L : Int → Nat} {F : Int → Int → Value} {G : Int → Value} {R : List (Option Blk)} {c cr : Option Blk} {rv : Int → Value} {ch : Nat → Option Blk} (i : Nat) (hi : i < n)
  (hv : IRow v T1 n (upd rv i x) c) (h3 : ∀ r : Nat, r < n → IRow (rv r) T2 (L r) (F r) (ch r)) (hx : IRow x T2 m G cr) (ho : Own B w0 w (cr :: c :: (((List.range n).erase i).map ch ++ R))) :
  ∃ H, OTab v T1 T2 n (upd L i m) (upd F i G) H ∧ Own B w0 w (H ++ R) := by
 refine ⟨_, ⟨c, _, fun r => if r = i then cr else ch r, rfl, hv, fun r hr => ?_⟩, ho.perm ?_⟩
 ·show IRow _ _ _ _ (if r = i then cr else ch r)
  by_cases e : r = i
  ·subst e; rw [upd_same, upd_same, upd_same, if_pos rfl]; exact hx
  ·rw [upd_ne _ _ (by omega), upd_ne _ _ (by omega), upd_ne _ _ (by omega), if_neg e]; exact h3 r hr
 ·have p := (List.perm_cons_erase (List.mem_range.2 hi)).map (fun r => if r = i then cr else ch r)
  have e : ((List.range n).erase i).map (fun r => if r = i then cr else ch r) = ((List.range n).erase i).map ch := List.map_congr_left fun r hr => by
   have : r ≠ i := fun e => by rw [e] at hr; exact (List.Nodup.not_mem_erase List.nodup_range) hr
   exact if_neg this
  simp only [List.map_cons, if_true, e] at p
  exact (List.Perm.swap _ _ _).trans ((p.symm.append_right R).cons c)
end Go.Proofs.Ytbepolognfdkeaa
