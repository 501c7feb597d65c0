import Derived.Test.YtbcjfjldmfljgaaGreatBits0
import Derived.ChangeKeysEq
import Derived.Laws.Cover3
set_option maxRecDepth 100000
namespace Go.Proofs.YtbcjfjldmfljgaaGreat
open Go.RowKit Go.Proofs
theorem ov_convTo {P : Program} {N : Nat} {o : Oper} {F : Fr} {w : World} {S T : TypeId} {x : Operand} {k k' : IntKind} {n m : Int} {ds : TypeDesc} (hm : k.wrap n = m) (ho : o.op = .convert S T x) (hS : P.underlying S = some ds) (hT : P.underlying T = some (.int k)) (hx : Fr.ev F x = some (.int k' n)) : OpV P N o F w (.int k m) := by
 have := ov_conv (P := P) (N := N) (w := w) ho hS hT hx
 rwa [hm] at this
theorem fill_cells (place : Nat → Option (Nat × Nat)) : ∀ (ps : List (Nat × Value)) (c : Array Value), Instr.fill place c (ps.map fun p => (p.1, Value.agg p.2.cells)) = Instr.fill place c ps
 | [], _ => rfl
 | (i, v) :: r, c => by
  have e : (Value.agg v.cells).cells = v.cells := rfl
  simp only [List.map_cons, Instr.fill, e, fill_cells place r]
theorem ow_build1 {P : Program} {N : Nat} {o : Oper} {F : Fr} {w : World} {B : Nat} {w0 : World} {H : List (Option Blk)} {T E : TypeId} {pairs : Array (Nat × Operand)} {d m : Nat} {z : Value} {by_ : Nat} (xs : List Value) (hd : o.dst = some d) (hN : Nat.blt d N = true) (ho : o.op = .buildSlice T m pairs) (hm : xs.length = m)
  (hp : pairs.toList.map (·.1) = List.range' 0 m) (hT : P.underlying T = some (.slice E)) (hinfo : (P.info? E).map (fun i => (i.zero, i.size, i.bytes)) = some (some z, 1, by_)) (hsmall : m ≤ 1000 ∧ 0 < m)
  (hO : Own B w0 w H) (hx : Fr.evs F (pairs.toList.map (·.2)) = some xs) (hs : xs.all (·.oneCell') = true) :
  OpW P N o F w (fun F' w' => ∃ b, F' = (d, .slice (some ⟨b, 0, none⟩) m m) :: F ∧ Own B w0 w' (some (vch b E m (fun i => xs.getD i.toNat undef)) :: H) ∧ Below w.heap.size w w') := by
 obtain ⟨i, hi, hz0, hsz, hby⟩ := info_parts hinfo
 have hs' : ∀ x ∈ xs, x.cells = #[x] := fun x hx => cells_one (List.all_eq_true.1 hs x hx)
 obtain ⟨c', h1, h2, h3⟩ := fill_seq 1 (xs.map fun x => [x]) 0 ((Array.range m).map (z.cells[· % z.cells.size]!)) (by simp) (by simp [hm])
 refine (ow_w (v := .slice (some ⟨w.heap.size, 0, none⟩) m m) (w' := w.alloc (.cells c' E)) hd hN (fun a ha => ?_)).mono fun F' w' ⟨g1, g2⟩ => ⟨w.heap.size, g1, ?_, by rw [g2]; exact (Below.refl _ _).alloc (Nat.le_refl _) _⟩
 ·have e := ha.evs hx
  have hparts : (pairs.toList.map fun (p : Nat × Operand) => (p.1, a.eval p.2)) = (List.range' 0 xs.length).zip xs := by
   rw [hm, ← hp, ← e]
   generalize pairs.toList = l
   induction l with
   | nil => rfl
   | cons p l ih => simp only [List.map_cons, List.zip_cons_cons, ih]
  have hf : Instr.fill (fun i => some (i, 1)) ((Array.range m).map (z.cells[· % z.cells.size]!)) ((List.range' 0 xs.length).zip xs) = some c' := by
   rw [← h1, ← fill_cells]
   congr 1
   ·funext i; simp
   ·rw [List.length_map, List.map_map]
    have hq : ∀ (l : List Value) (o : Nat), (∀ x ∈ l, x.cells = #[x]) → ((List.range' o l.length).zip l).map (fun p => (p.1, Value.agg p.2.cells)) = (List.range' o l.length).zip (l.map ((fun x => Value.agg x.toArray) ∘ fun x => [x])) := by
     intro l
     induction l with
     | nil => intro o _; rfl
     | cons x l ih =>
      intro o hl
      simp only [List.length_cons, List.range'_succ, List.zip_cons_cons, List.map_cons, ih (o + 1) (fun y hy => hl y (List.mem_cons_of_mem _ hy)), hl x (List.mem_cons_self ..)]
      rfl
    exact hq xs 0 hs'
  have h0 : ¬ m = 0 := by omega
  have h24 : ¬ (m > 2 ^ 24) := by omega
  unfold execOp
  rw [ho]
  simp [Instr.buildSlice, run_underlying hT, sizeOf, typeInfo, zeroValue, hi, hz0, hsz, h24, h0, Result.andThen, hparts, hf, run_newRow]
 ·rw [g2]
  refine hO.alloc c' E m _ (by rw [h2]; simp) (fun j hj => ?_)
  rw [h3 j, if_pos ⟨by simp, by simpa [hm] using hj⟩]
  simp [hm, hj, Nat.mod_one]
theorem ov_isnil {P : Program} {N : Nat} {o : Oper} {F : Fr} {w : World} {T U E : TypeId} {x : Operand} {ao : Option Addr} {n c : Nat} (ho : o.op = .binOp .eql T x (.const (.slice none 0 0)) U) (hT : P.underlying T = some (.slice E)) (hx : Fr.ev F x = some (.slice ao n c)) : OpV P N o F w (.bool ao.isNone) := by
 intro a ha
 unfold execOp
 have h1 := run_equal_slice_nil (P := P) (w := w) T E ao n c hT
 have hn : a.eval (.const (.slice none 0 0)) = .slice none 0 0 := rfl
 simp only [ho, ha.ev hx, hn, Sem.run_bind, eqGuard]
 simp [binOp, h1, Result.andThen]
end Go.Proofs.YtbcjfjldmfljgaaGreat
set_option maxRecDepth 100000
namespace Go.Proofs.YtbcjfjldmfljgaaGreat
open Go.RowKit Go.Proofs
abbrev iv (n : Int) : Value := .int .i64 n
abbrev ptr (b : Nat) : Value := .pointer (some ⟨b, 0, none⟩)
section
variable {P : Program} {f N : Nat} {k : List Item} {F : Fr} {w : World} {R : Ending → World → Prop} {o : Oper} {B : Nat} {w0 : World} {H : List (Option Blk)}
theorem run_once {c : Code} (h : Run P f N (.code c :: .inLoop c :: k) F w R) : Run P f N (.code (.loop c) :: k) F w R := fun a ha => RunA.of_step (fun _ => .one step_loop) (h a ha)
theorem run_again {c : Code} (h : Run P f N (.code c :: .inLoop c :: k) F w R) : Run P f N (.inLoop c :: k) F w R := fun a ha => RunA.of_step (fun _ => .one step_inLoop) (h a ha)
theorem ow_storeS {T E : TypeId} {p x : Operand} {b n cap kk s : Nat} {G : Int → List Value} {c : Option Blk} {ao : Option Addr} {i : Int} {us : List Value} (hd : o.dst = none) (ho : o.op = .store T p x) (hi : (P.info? T).map (·.size) = some us.length)
  (hO : Own B w0 w H) (hr : SRow (.slice ao n cap) E s n G c) (hk : H[kk]? = some c) (hao : 0 < n → ao = some ⟨b, 0, none⟩) (hp : Fr.ev F p = some (.pointer (some ⟨b, 0 + i.toNat * s, none⟩))) (hb : 0 ≤ i ∧ i < n) (hl : us.length = s)
  (hx : Fr.ev F x = some (.agg us.toArray)) (h1 : us.all (·.oneCell') = true) :
  OpW P N o F w (fun F' w' => ∃ c', F' = F ∧ Own B w0 w' (H.set kk c') ∧ SRow (.slice ao n cap) E s n (upd G i us) c' ∧ w'.heap.size = w.heap.size) := by
 rcases hr with ⟨h, rfl, rfl⟩ | ⟨b', cap', g, h, h2, h3, rfl, h5⟩
 ·omega
 cases h
 have := hao (by omega)
 simp only [Option.some.injEq, Addr.mk.injEq] at this
 obtain rfl := this.1
 have hin : i.toNat < n := by omega
 have hfit : i.toNat * s + s ≤ cap * s := by
  have := Nat.mul_le_mul_right s (show i.toNat + 1 ≤ cap by omega)
  rw [Nat.add_mul] at this; omega
 refine (ow_u (w' := w.setCells b' (0 + i.toNat * s) us) hd (fun a ha => ?_)).mono fun F' w' ⟨e1, e2⟩ => ⟨some ⟨b', E, cap * s, fun j => if 0 + i.toNat * s ≤ j ∧ j < 0 + i.toNat * s + us.length then us.getD (j - (0 + i.toNat * s)) undef else g j, none⟩, e1, by rw [e2]; exact hO.storeN us kk hk (0 + i.toNat * s), .inr ⟨b', cap, _, rfl, h2, h3, rfl, fun j hj => ?_⟩, by rw [e2]; exact size_setCells _ _ _ _⟩
 ·have hrun := run_storeAt_mid (P := P) w b' (0 + i.toNat * s) T us.toArray (fun j hj => by
   have hj' : j < us.length := by simpa using hj
   have hlt : 0 + i.toNat * s + j < cap * s := by omega
   exact ⟨Option.isSome_iff_exists.2 ⟨_, hO.cell kk hk _ hlt⟩, (hO.get kk hk).frozen _⟩) (by simpa using hi) (by simpa using h1)
  unfold execOp
  simp only [ho, ha.ev hp, ha.ev hx, Sem.run_bind, hrun, Result.andThen_ok, Sem.run_pure]
 ·have hs : 0 < s := Nat.pos_of_ne_zero fun e => by subst e; simp at hj
  have hdm := Nat.div_add_mod j s
  rw [Nat.mul_comm] at hdm
  have hm := Nat.mod_lt j hs
  dsimp only
  by_cases e : j / s = i.toNat
  ·have e2 : ((j / s : Nat) : Int) = i := by omega
   rw [e] at hdm
   rw [e2, upd_same, if_pos (by omega), show j - (0 + i.toNat * s) = j % s by omega]
  ·have e2 : ((j / s : Nat) : Int) ≠ i := by omega
   rw [upd_ne _ _ e2, if_neg, h5 j hj]
   intro ⟨c1, c2⟩
   have q1 : i.toNat ≤ j / s := (Nat.le_div_iff_mul_le hs).2 (by omega)
   have q2 : j / s < i.toNat + 1 := Nat.div_lt_of_lt_mul (by rw [Nat.mul_comm, Nat.add_mul]; omega)
   omega
end
theorem resW2 {P : Program} {N : Nat} {F : Fr} {w : World} {fn : Func} {t u ty : Nat} {b B : Nat} {t2 : TypeId} {w0 : World} {H : List (Option Blk)} {dd : TypeDesc} {vs : List Value} {x : Value} (hr : fn.results = #[.cell t ty, .tmp u]) (hv : Fr.get F t = some (.pointer (some ⟨b, 0, none⟩))) (hx : Fr.get F u = some x)
  (hT : P.underlying ty = some dd) (hd : dd.isRow = true) (hi : (P.info? ty).map (·.size) = some vs.length) (hO : Own B w0 w H) (k : Nat) (hk : H[k]? = some (some (lch b t2 vs))) : ∀ a, Holds N F a → (results fn a.tmps).run P w = .ok (.tuple #[.agg vs.toArray, x]) w := by
 intro a ha
 have h1 := ha.at_ t _ hv
 have h3 := ha.at_ u _ hx
 have h2 := run_loadVar_mid (P := P) w b 0 ty vs dd (hO.rangeL k hk) hT hd hi
 simp [results, hr, Array.getD_eq_getD_getElem?, h1, h3, asAddr, h2, Result.andThen]
end Go.Proofs.YtbcjfjldmfljgaaGreat
