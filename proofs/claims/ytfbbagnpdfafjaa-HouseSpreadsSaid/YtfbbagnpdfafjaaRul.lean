import Derived.Test.YtfbbagnpdfafjaaBits0
import Derived.ChangeKeysEq
import Derived.Laws.Cover3
set_option maxRecDepth 100000
namespace Go.Proofs.Ytfbbagnpdfafjaa
open Go.RowKit Go.Proofs
section
variable {P : Program} {N : Nat} {o : Oper} {F : Fr} {w : World} {B : Nat} {w0 : World} {H : List (Option Blk)}
end
theorem fill_cells (place : Nat → Option (Nat × Nat)) : ∀ (ps : List (Nat × Value)) (c : Array Value), Instr.fill place c (ps.map fun p => (p.1, Value.agg p.2.cells)) = Instr.fill place c ps
 | [], _ => rfl
 | (i, v) :: r, c => by
  have e : (Value.agg v.cells).cells = v.cells := rfl
  simp only [List.map_cons, Instr.fill, e, fill_cells place r]
theorem ow_build1 {P : Program} {N : Nat} {o : Oper} {F : Fr} {w : World} {B : Nat} {w0 : World} {H : List (Option Blk)} {T E : TypeId} {pairs : Array (Nat × Operand)} {d m : Nat} {z : Value} {by_ : Nat} (xs : List Value) (hd : o.dst = some d) (hN : Nat.blt d N = true) (ho : o.op = .buildSlice T m pairs) (hm : xs.length = m)
  (hp : pairs.toList.map (·.1) = List.range' 0 m) (hT : P.underlying T = some (.slice E)) (hinfo : (P.info? E).map (fun i => (i.zero, i.size, i.bytes)) = some (some z, 1, by_)) (hsmall : m ≤ 1000 ∧ 0 < m)
  (hO : Own B w0 w H) (hx : Fr.evs F (pairs.toList.map (·.2)) = some xs) (hs : xs.all (·.oneCell') = true) :
  OpW P N o F w (fun F' w' => ∃ b, F' = (d, .slice (some ⟨b, 0, none⟩) m m) :: F ∧ Own B w0 w' (some (vch b E m (fun i => xs.getD i.toNat undef)) :: H) ∧ Below w.heap.size w w') := by
 obtain ⟨i, hi, hz0, hsz, hby⟩ := info_parts hinfo
 have hs' : ∀ x ∈ xs, x.cells = #[x] := fun x hx => cells_one (List.all_eq_true.1 hs x hx)
 obtain ⟨c', h1, h2, h3⟩ := fill_seq 1 (xs.map fun x => [x]) 0 ((Array.range m).map (z.cells[· % z.cells.size]!)) (by simp) (by simp [hm])
 refine (ow_w (v := .slice (some ⟨w.heap.size, 0, none⟩) m m) (w' := w.alloc (.cells c' E)) hd hN (fun a ha => ?_)).mono fun F' w' ⟨g1, g2⟩ => ⟨w.heap.size, g1, ?_, by rw [g2]; exact (Below.refl _ _).alloc (Nat.le_refl _) _⟩
 ·have e := ha.evs hx
  have hparts : (pairs.toList.map fun (p : Nat × Operand) => (p.1, a.eval p.2)) = (List.range' 0 xs.length).zip xs := by
   rw [hm, ← hp, ← e]
   generalize pairs.toList = l
   induction l with
   | nil => rfl
   | cons p l ih => simp only [List.map_cons, List.zip_cons_cons, ih]
  have hf : Instr.fill (fun i => some (i, 1)) ((Array.range m).map (z.cells[· % z.cells.size]!)) ((List.range' 0 xs.length).zip xs) = some c' := by
   rw [← h1, ← fill_cells]
   congr 1
   ·funext i; simp
   ·rw [List.length_map, List.map_map]
    have hq : ∀ (l : List Value) (o : Nat), (∀ x ∈ l, x.cells = #[x]) → ((List.range' o l.length).zip l).map (fun p => (p.1, Value.agg p.2.cells)) = (List.range' o l.length).zip (l.map ((fun x => Value.agg x.toArray) ∘ fun x => [x])) := by
     intro l
     induction l with
     | nil => intro o _; rfl
     | cons x l ih =>
      intro o hl
      simp only [List.length_cons, List.range'_succ, List.zip_cons_cons, List.map_cons, ih (o + 1) (fun y hy => hl y (List.mem_cons_of_mem _ hy)), hl x (List.mem_cons_self ..)]
      rfl
    exact hq xs 0 hs'
  have h0 : ¬ m = 0 := by omega
  have h24 : ¬ (m > 2 ^ 24) := by omega
  unfold execOp
  rw [ho]
  simp [Instr.buildSlice, run_underlying hT, sizeOf, typeInfo, zeroValue, hi, hz0, hsz, h24, h0, Result.andThen, hparts, hf, run_newRow]
 ·rw [g2]
  refine hO.alloc c' E m _ (by rw [h2]; simp) (fun j hj => ?_)
  rw [h3 j, if_pos ⟨by simp, by simpa [hm] using hj⟩]
  simp [hm, hj, Nat.mod_one]
theorem arrv_cells (n : Nat) (G : Int → Value) : (arrv n G).cells = ((List.range n).map fun (j : Nat) => G (j : Int)).toArray := rfl
theorem ow_boxA {P : Program} {N : Nat} {o : Oper} {F : Fr} {w : World} {B : Nat} {w0 : World} {H : List (Option Blk)} {E : TypeId} {x : Operand} {d n : Nat} {G : Int → Value} (hd : o.dst = some d) (hN : Nat.blt d N = true) (ho : o.op = .box E x) (hx : Fr.ev F x = some (arrv n G)) (hO : Own B w0 w H) :
  OpW P N o F w (fun F' w' => ∃ b, F' = (d, .pointer (some ⟨b, 0, none⟩)) :: F ∧ Own B w0 w' (some (vch b E n G) :: H) ∧ Below w.heap.size w w') := by
 refine (ow_w (v := .pointer (some ⟨w.heap.size, 0, none⟩)) (w' := w.alloc (.cells ((List.range n).map fun (j : Nat) => G (j : Int)).toArray E)) hd hN (fun a ha => ?_)).mono fun F' w' ⟨h1, h2⟩ => ⟨w.heap.size, h1, ?_, by rw [h2]; exact (Below.refl _ _).alloc (Nat.le_refl _) _⟩
 ·unfold execOp
  rw [ho]
  simp [Instr.box, newVar, ha.ev hx, arrv_cells, run_newRow, Result.andThen]
 ·rw [h2]
  exact hO.alloc _ E n _ (by simp) (fun i hi => by simp [hi])
theorem resA {P : Program} {N : Nat} {F : Fr} {w : World} {fn : Func} {t ty : Nat} {b n B : Nat} {t2 : TypeId} {w0 : World} {H : List (Option Blk)} {dd : TypeDesc} {G : Int → Value} (hr : fn.results = #[.cell t ty]) (hv : Fr.get F t = some (.pointer (some ⟨b, 0, none⟩)))
  (hT : P.underlying ty = some dd) (hd : dd.isRow = true) (hi : (P.info? ty).map (·.size) = some n) (hO : Own B w0 w H) (k : Nat) (hk : H[k]? = some (some (vch b t2 n G))) : ∀ a, Holds N F a → (results fn a.tmps).run P w = .ok (arrv n G) w := by
 intro a ha
 have h1 := ha.at_ t _ hv
 have h2 := run_loadVar_mid (P := P) w b 0 ty _ dd (hO.rangeA k hk) hT hd (by rw [hi]; simp)
 simp [results, hr, Array.getD_eq_getD_getElem?, h1, asAddr, h2]
 rfl
theorem ov_sliceAF {P : Program} {N : Nat} {o : Oper} {F : Fr} {w : World} {T E : TypeId} {x : Operand} {b off n : Nat} {s : Nat} (ho : o.op = .slice T x none none none) (hT : P.underlying T = some (.array n E)) (hs : (P.info? E).map (·.size) = some s)
  (hx : Fr.ev F x = some (.pointer (some ⟨b, off, none⟩))) : OpV P N o F w (.slice (some ⟨b, off, none⟩) n n) := by
 intro a ha
 cases hq : P.info? E with
 | none => simp [hq] at hs
 | some q =>
  unfold execOp
  rw [ho]
  have e : ∀ ad : Addr, ad.add 0 = ad := fun ad => by unfold Addr.add; simp
  simp [Instr.sliceAt, Instr.sureAddr, Instr.sliceBounds, run_underlying hT, ha.ev hx, Result.andThen, sizeOf, typeInfo, hq, e]
end Go.Proofs.Ytfbbagnpdfafjaa
set_option maxRecDepth 100000
namespace Go.Proofs.Ytfbbagnpdfafjaa
open Go.RowKit Go.Proofs
abbrev iv (n : Int) : Value := .int .i64 n
abbrev ptr (b : Nat) : Value := .pointer (some ⟨b, 0, none⟩)
def SrcI (H : List (Option Blk)) (ao : Option Addr) (n : Nat) (g : Int → Int) : Prop := ∀ (B : Nat) (w0 w : World), Own B w0 w H → IAt w.heap.size w ao n (fun i => iv (g i))
section
variable {P : Program} {f N : Nat} {k : List Item} {F : Fr} {w : World} {R : Ending → World → Prop} {o : Oper} {B : Nat} {w0 : World} {H : List (Option Blk)}
theorem run_once {c : Code} (h : Run P f N (.code c :: .inLoop c :: k) F w R) : Run P f N (.code (.loop c) :: k) F w R := fun a ha => RunA.of_step (fun _ => .one step_loop) (h a ha)
theorem run_again {c : Code} (h : Run P f N (.code c :: .inLoop c :: k) F w R) : Run P f N (.inLoop c :: k) F w R := fun a ha => RunA.of_step (fun _ => .one step_inLoop) (h a ha)
theorem ow_storeS {T E : TypeId} {p x : Operand} {b n cap kk s : Nat} {G : Int → List Value} {c : Option Blk} {ao : Option Addr} {i : Int} {us : List Value} (hd : o.dst = none) (ho : o.op = .store T p x) (hi : (P.info? T).map (·.size) = some us.length)
  (hO : Own B w0 w H) (hr : SRow (.slice ao n cap) E s n G c) (hk : H[kk]? = some c) (hao : 0 < n → ao = some ⟨b, 0, none⟩) (hp : Fr.ev F p = some (.pointer (some ⟨b, 0 + i.toNat * s, none⟩))) (hb : 0 ≤ i ∧ i < n) (hl : us.length = s)
  (hx : Fr.ev F x = some (.agg us.toArray)) (h1 : us.all (·.oneCell') = true) :
  OpW P N o F w (fun F' w' => ∃ c', F' = F ∧ Own B w0 w' (H.set kk c') ∧ SRow (.slice ao n cap) E s n (upd G i us) c' ∧ w'.heap.size = w.heap.size) := by
 rcases hr with ⟨h, rfl, rfl⟩ | ⟨b', cap', g, h, h2, h3, rfl, h5⟩
 ·omega
 cases h
 have := hao (by omega)
 simp only [Option.some.injEq, Addr.mk.injEq] at this
 obtain rfl := this.1
 have hin : i.toNat < n := by omega
 have hfit : i.toNat * s + s ≤ cap * s := by
  have := Nat.mul_le_mul_right s (show i.toNat + 1 ≤ cap by omega)
  rw [Nat.add_mul] at this; omega
 refine (ow_u (w' := w.setCells b' (0 + i.toNat * s) us) hd (fun a ha => ?_)).mono fun F' w' ⟨e1, e2⟩ => ⟨some ⟨b', E, cap * s, fun j => if 0 + i.toNat * s ≤ j ∧ j < 0 + i.toNat * s + us.length then us.getD (j - (0 + i.toNat * s)) undef else g j, none⟩, e1, by rw [e2]; exact hO.storeN us kk hk (0 + i.toNat * s), .inr ⟨b', cap, _, rfl, h2, h3, rfl, fun j hj => ?_⟩, by rw [e2]; exact size_setCells _ _ _ _⟩
 ·have hrun := run_storeAt_mid (P := P) w b' (0 + i.toNat * s) T us.toArray (fun j hj => by
   have hj' : j < us.length := by simpa using hj
   have hlt : 0 + i.toNat * s + j < cap * s := by omega
   exact ⟨Option.isSome_iff_exists.2 ⟨_, hO.cell kk hk _ hlt⟩, (hO.get kk hk).frozen _⟩) (by simpa using hi) (by simpa using h1)
  unfold execOp
  simp only [ho, ha.ev hp, ha.ev hx, Sem.run_bind, hrun, Result.andThen_ok, Sem.run_pure]
 ·have hs : 0 < s := Nat.pos_of_ne_zero fun e => by subst e; simp at hj
  have hdm := Nat.div_add_mod j s
  rw [Nat.mul_comm] at hdm
  have hm := Nat.mod_lt j hs
  dsimp only
  by_cases e : j / s = i.toNat
  ·have e2 : ((j / s : Nat) : Int) = i := by omega
   rw [e] at hdm
   rw [e2, upd_same, if_pos (by omega), show j - (0 + i.toNat * s) = j % s by omega]
  ·have e2 : ((j / s : Nat) : Int) ≠ i := by omega
   rw [upd_ne _ _ e2, if_neg, h5 j hj]
   intro ⟨c1, c2⟩
   have q1 : i.toNat ≤ j / s := (Nat.le_div_iff_mul_le hs).2 (by omega)
   have q2 : j / s < i.toNat + 1 := Nat.div_lt_of_lt_mul (by rw [Nat.mul_comm, Nat.add_mul]; omega)
   omega
theorem ow_makeS {T E : TypeId} {l c : Operand} {z : Value} {by_ s : Nat} {k1 k2 : IntKind} {i j : Int} {d : Nat} (n : Nat) (zs : List Value) (hd : o.dst = some d) (hN : Nat.blt d N = true) (ho : o.op = .makeSlice T l c)
  (hT : P.underlying T = some (.slice E)) (hinfo : (P.info? E).map (fun i => (i.zero, i.size, i.bytes)) = some (some z, s, by_)) (hz : z.cells = zs.toArray) (hs : zs.length = s)
  (hO : Own B w0 w H) (hl : Fr.ev F l = some (.int k1 i)) (hc : Fr.ev F c = some (.int k2 j)) (hi : i = n) (hj : j = n) (hb : by_ * n ≤ 140737488355328 ∧ n ≤ 4000000000000) :
  OpW P N o F w (fun F' w' => ∃ b c', F' = (d, .slice (some ⟨b, 0, none⟩) n n) :: F ∧ Own B w0 w' (c' :: H) ∧ SRow (.slice (some ⟨b, 0, none⟩) n n) E s n (fun _ => zs) c' ∧ Below w.heap.size w w') := by
 subst hi; subst hj
 obtain ⟨q, hq, hq0, rfl, rfl⟩ := info_parts hinfo
 have hb' : (q.bytes : Int) * (n : Int) ≤ 281474976710656 := by
  have h : ((q.bytes * n : Nat) : Int) ≤ 281474976710656 := by omega
  rwa [Int.natCast_mul] at h
 have hrun := run_make (P := P) w T E q z hT hq hq0 k1 k2 n n (by omega) (Int.le_refl _) hb' (by omega)
 simp only [Int.toNat_natCast] at hrun
 refine (ow_w (v := .slice (some ⟨w.heap.size, 0, none⟩) n n) (w' := w.alloc (.cells (madeCells z.cells (n * q.size)) E)) hd hN (fun a ha => ?_)).mono fun F' w' ⟨h1, h2⟩ => ⟨w.heap.size, some ⟨w.heap.size, E, n * q.size, fun j => zs.getD (j % q.size) undef, none⟩, h1, ?_, .inr ⟨_, n, _, rfl, Nat.le_refl _, by unfold maxLen; omega, rfl, fun j _ => rfl⟩, by rw [h2]; exact (Below.refl _ _).alloc (Nat.le_refl _) _⟩
 ·unfold execOp
  simp only [ho, ha.ev hl, ha.ev hc, Sem.run_bind, hrun, Result.andThen_ok, Sem.run_pure]
 ·rw [h2]
  refine hO.alloc _ E (n * q.size) _ (size_madeCells _ _) fun j hj => ?_
  have hlt : j % zs.length < zs.length := Nat.mod_lt _ (by rw [hs]; exact Nat.pos_of_ne_zero fun e => by rw [e] at hj; simp at hj)
  simp [madeCells, hj, hz, List.getD_eq_getElem?_getD, hs]
  rw [hs] at hlt
  rw [List.getElem?_eq_getElem (by rw [hs]; exact hlt)]
  rfl
theorem resW3 {fn : Func} {t u u2 ty : Nat} {b : Nat} {t2 : TypeId} {dd : TypeDesc} {vs : List Value} {x y : Value} (hr : fn.results = #[.cell t ty, .tmp u, .tmp u2]) (hv : Fr.get F t = some (.pointer (some ⟨b, 0, none⟩))) (hx : Fr.get F u = some x) (hy : Fr.get F u2 = some y)
  (hT : P.underlying ty = some dd) (hd : dd.isRow = true) (hi : (P.info? ty).map (·.size) = some vs.length) (hO : Own B w0 w H) (k : Nat) (hk : H[k]? = some (some (lch b t2 vs))) : ∀ a, Holds N F a → (results fn a.tmps).run P w = .ok (.tuple #[.agg vs.toArray, x, y]) w := by
 intro a ha
 have h1 := ha.at_ t _ hv
 have h3 := ha.at_ u _ hx
 have h4 := ha.at_ u2 _ hy
 have h2 := run_loadVar_mid (P := P) w b 0 ty vs dd (hO.rangeL k hk) hT hd hi
 simp [results, hr, Array.getD_eq_getD_getElem?, h1, h3, h4, asAddr, h2, Result.andThen]
theorem resVW {fn : Func} {t ty u : Nat} {b : Nat} {t2 : TypeId} {dd : TypeDesc} {vs : List Value} {x : Value} (hr : fn.results = #[.tmp u, .cell t ty]) (hv : Fr.get F t = some (.pointer (some ⟨b, 0, none⟩))) (hx : Fr.get F u = some x)
  (hT : P.underlying ty = some dd) (hd : dd.isRow = true) (hi : (P.info? ty).map (·.size) = some vs.length) (hO : Own B w0 w H) (k : Nat) (hk : H[k]? = some (some (lch b t2 vs))) : ∀ a, Holds N F a → (results fn a.tmps).run P w = .ok (.tuple #[x, .agg vs.toArray]) w := by
 intro a ha
 have h1 := ha.at_ t _ hv
 have h3 := ha.at_ u _ hx
 have h2 := run_loadVar_mid (P := P) w b 0 ty vs dd (hO.rangeL k hk) hT hd hi
 simp [results, hr, Array.getD_eq_getD_getElem?, h1, h3, asAddr, h2, Result.andThen]
end
theorem resW2 {P : Program} {N : Nat} {F : Fr} {w : World} {fn : Func} {t u ty : Nat} {b B : Nat} {t2 : TypeId} {w0 : World} {H : List (Option Blk)} {dd : TypeDesc} {vs : List Value} {x : Value} (hr : fn.results = #[.cell t ty, .tmp u]) (hv : Fr.get F t = some (.pointer (some ⟨b, 0, none⟩))) (hx : Fr.get F u = some x)
  (hT : P.underlying ty = some dd) (hd : dd.isRow = true) (hi : (P.info? ty).map (·.size) = some vs.length) (hO : Own B w0 w H) (k : Nat) (hk : H[k]? = some (some (lch b t2 vs))) : ∀ a, Holds N F a → (results fn a.tmps).run P w = .ok (.tuple #[.agg vs.toArray, x]) w := by
 intro a ha
 have h1 := ha.at_ t _ hv
 have h3 := ha.at_ u _ hx
 have h2 := run_loadVar_mid (P := P) w b 0 ty vs dd (hO.rangeL k hk) hT hd hi
 simp [results, hr, Array.getD_eq_getD_getElem?, h1, h3, asAddr, h2, Result.andThen]
end Go.Proofs.Ytfbbagnpdfafjaa
