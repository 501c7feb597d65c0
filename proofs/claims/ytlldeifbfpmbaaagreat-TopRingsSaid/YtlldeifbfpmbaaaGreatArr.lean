import Derived.Test.YtlldeifbfpmbaaaGreatBits0
import Derived.ChangeKeysEq
import Derived.Laws.Cover3
set_option maxRecDepth 100000
namespace Go.Proofs.YtlldeifbfpmbaaaGreat
open Go.RowKit Go.Proofs
section
variable {P : Program} {N : Nat} {o : Oper} {F : Fr} {w : World} {B : Nat} {w0 : World} {H : List (Option Blk)}
theorem run_eqItems {e : TypeId} {kk : IntKind} (d : Nat) (he : P.underlying e = some (.int kk)) (n : Nat) (g g' : Int → Int) (js : List Nat) (hj : ∀ j ∈ js, j < n) :
  (Op.eqItems (d + 1) e 1 ((List.range n).map fun (j : Nat) => Value.int kk (g (j : Int))).toArray ((List.range n).map fun (j : Nat) => Value.int kk (g' (j : Int))).toArray js).run P w = .ok (js.all fun j => g (j : Int) == g' (j : Int)) w := by
 induction js with
 | nil => simp [Op.eqItems]
 | cons j js ih =>
  have hjn := hj j (List.mem_cons_self ..)
  have hp : ∀ f : Int → Int, (part e ((List.range n).map fun (j : Nat) => Value.int kk (f (j : Int))).toArray (j * 1)).run P w = .ok (.int kk (f (j : Int))) w := fun f => by
   have hx : ((List.range n).map fun (j : Nat) => Value.int kk (f (j : Int))).toArray[j * 1]? = some (.int kk (f (j : Int))) := by simp [hjn]
   simp only [part, isAgg, Sem.run_bind, run_underlying he, Result.andThen_ok, Sem.run_pure, hx]
   simp
  have heq : (Op.equalIn (d + 1) e (.int kk (g (j : Int))) (.int kk (g' (j : Int)))).run P w = .ok (g (j : Int) == g' (j : Int)) w := by
   simp [Op.equalIn, run_underlying he]
  simp only [Op.eqItems, Sem.run_bind, hp, Result.andThen_ok, heq, List.all_cons]
  cases hb : (g (j : Int) == g' (j : Int))
  ·simp
  ·simp only [Bool.not_true, Bool.false_eq_true, if_false, Bool.true_and]
   simpa using ih (fun i hi => hj i (List.mem_cons_of_mem _ hi))
theorem ov_eqlA {T U E : TypeId} {x y : Operand} {n : Nat} {kk : IntKind} {g g' : Int → Int} (ho : o.op = .binOp .eql T x y U) (hT : P.underlying T = some (.array n E)) (hE : P.underlying E = some (.int kk)) (hs : P.cellsOf E = 1) (hi : (P.info? E).isSome = true) (hgd : P.eqGuardType P.depth T = false)
  (hx : Fr.ev F x = some (arrv n (fun j => .int kk (g j)))) (hy : Fr.ev F y = some (arrv n (fun j => .int kk (g' j)))) : OpV P N o F w (.bool (decide (∀ j, j < n → g ((j : Nat) : Int) = g' j))) := by
 intro a ha
 have hx' := ha.ev hx
 have hy' := ha.ev hy
 obtain ⟨i, hi⟩ := Option.isSome_iff_exists.1 hi
 have h1 := run_equalIn_array (P := P) (w := w) 9999 ((List.range n).map fun (j : Nat) => Value.int kk (g (j : Int))).toArray ((List.range n).map fun (j : Nat) => Value.int kk (g' (j : Int))).toArray hT hi
 rw [hs, run_eqItems (P := P) (w := w) 9998 hE n g g' (List.range n) (fun j hj => List.mem_range.1 hj)] at h1
 have e : ((List.range n).all fun j => g (j : Int) == g' (j : Int)) = decide (∀ j, j < n → g ((j : Nat) : Int) = g' j) := by
  rw [Bool.eq_iff_iff]
  simp
 rw [e] at h1
 unfold execOp
 simp only [ho, hx', hy']
 unfold arrv
 simp only [Sem.run_bind, eqGuard]
 simp [hgd, binOp, Op.equal, Op.maxDepth, h1, Result.andThen]
end
theorem ov_convTo {P : Program} {N : Nat} {o : Oper} {F : Fr} {w : World} {S T : TypeId} {x : Operand} {k k' : IntKind} {n m : Int} {ds : TypeDesc} (hm : k.wrap n = m) (ho : o.op = .convert S T x) (hS : P.underlying S = some ds) (hT : P.underlying T = some (.int k)) (hx : Fr.ev F x = some (.int k' n)) : OpV P N o F w (.int k m) := by
 have := ov_conv (P := P) (N := N) (w := w) ho hS hT hx
 rwa [hm] at this
theorem fill_cells (place : Nat → Option (Nat × Nat)) : ∀ (ps : List (Nat × Value)) (c : Array Value), Instr.fill place c (ps.map fun p => (p.1, Value.agg p.2.cells)) = Instr.fill place c ps
 | [], _ => rfl
 | (i, v) :: r, c => by
  have e : (Value.agg v.cells).cells = v.cells := rfl
  simp only [List.map_cons, Instr.fill, e, fill_cells place r]
theorem ow_build1 {P : Program} {N : Nat} {o : Oper} {F : Fr} {w : World} {B : Nat} {w0 : World} {H : List (Option Blk)} {T E : TypeId} {pairs : Array (Nat × Operand)} {d m : Nat} {z : Value} {by_ : Nat} (xs : List Value) (hd : o.dst = some d) (hN : Nat.blt d N = true) (ho : o.op = .buildSlice T m pairs) (hm : xs.length = m)
  (hp : pairs.toList.map (·.1) = List.range' 0 m) (hT : P.underlying T = some (.slice E)) (hinfo : (P.info? E).map (fun i => (i.zero, i.size, i.bytes)) = some (some z, 1, by_)) (hsmall : m ≤ 1000 ∧ 0 < m)
  (hO : Own B w0 w H) (hx : Fr.evs F (pairs.toList.map (·.2)) = some xs) (hs : xs.all (·.oneCell') = true) :
  OpW P N o F w (fun F' w' => ∃ b, F' = (d, .slice (some ⟨b, 0, none⟩) m m) :: F ∧ Own B w0 w' (some (vch b E m (fun i => xs.getD i.toNat undef)) :: H) ∧ Below w.heap.size w w') := by
 obtain ⟨i, hi, hz0, hsz, hby⟩ := info_parts hinfo
 have hs' : ∀ x ∈ xs, x.cells = #[x] := fun x hx => cells_one (List.all_eq_true.1 hs x hx)
 obtain ⟨c', h1, h2, h3⟩ := fill_seq 1 (xs.map fun x => [x]) 0 ((Array.range m).map (z.cells[· % z.cells.size]!)) (by simp) (by simp [hm])
 refine (ow_w (v := .slice (some ⟨w.heap.size, 0, none⟩) m m) (w' := w.alloc (.cells c' E)) hd hN (fun a ha => ?_)).mono fun F' w' ⟨g1, g2⟩ => ⟨w.heap.size, g1, ?_, by rw [g2]; exact (Below.refl _ _).alloc (Nat.le_refl _) _⟩
 ·have e := ha.evs hx
  have hparts : (pairs.toList.map fun (p : Nat × Operand) => (p.1, a.eval p.2)) = (List.range' 0 xs.length).zip xs := by
   rw [hm, ← hp, ← e]
   generalize pairs.toList = l
   induction l with
   | nil => rfl
   | cons p l ih => simp only [List.map_cons, List.zip_cons_cons, ih]
  have hf : Instr.fill (fun i => some (i, 1)) ((Array.range m).map (z.cells[· % z.cells.size]!)) ((List.range' 0 xs.length).zip xs) = some c' := by
   rw [← h1, ← fill_cells]
   congr 1
   ·funext i; simp
   ·rw [List.length_map, List.map_map]
    have hq : ∀ (l : List Value) (o : Nat), (∀ x ∈ l, x.cells = #[x]) → ((List.range' o l.length).zip l).map (fun p => (p.1, Value.agg p.2.cells)) = (List.range' o l.length).zip (l.map ((fun x => Value.agg x.toArray) ∘ fun x => [x])) := by
     intro l
     induction l with
     | nil => intro o _; rfl
     | cons x l ih =>
      intro o hl
      simp only [List.length_cons, List.range'_succ, List.zip_cons_cons, List.map_cons, ih (o + 1) (fun y hy => hl y (List.mem_cons_of_mem _ hy)), hl x (List.mem_cons_self ..)]
      rfl
    exact hq xs 0 hs'
  have h0 : ¬ m = 0 := by omega
  have h24 : ¬ (m > 2 ^ 24) := by omega
  unfold execOp
  rw [ho]
  simp [Instr.buildSlice, run_underlying hT, sizeOf, typeInfo, zeroValue, hi, hz0, hsz, h24, h0, Result.andThen, hparts, hf, run_newRow]
 ·rw [g2]
  refine hO.alloc c' E m _ (by rw [h2]; simp) (fun j hj => ?_)
  rw [h3 j, if_pos ⟨by simp, by simpa [hm] using hj⟩]
  simp [hm, hj, Nat.mod_one]
theorem ov_isnil {P : Program} {N : Nat} {o : Oper} {F : Fr} {w : World} {T U E : TypeId} {x : Operand} {ao : Option Addr} {n c : Nat} (ho : o.op = .binOp .eql T x (.const (.slice none 0 0)) U) (hT : P.underlying T = some (.slice E)) (hx : Fr.ev F x = some (.slice ao n c)) : OpV P N o F w (.bool ao.isNone) := by
 intro a ha
 unfold execOp
 have h1 := run_equal_slice_nil (P := P) (w := w) T E ao n c hT
 have hn : a.eval (.const (.slice none 0 0)) = .slice none 0 0 := rfl
 simp only [ho, ha.ev hx, hn, Sem.run_bind, eqGuard]
 simp [binOp, h1, Result.andThen]
theorem LAt.range {B : Nat} {w : World} {b : Nat} {vs : List Value} (h : LAt B w b vs) : ∀ w', Below B w w' → w'.rangeAt b 0 vs := fun w' hb j v hv => by rw [Nat.zero_add]; exact h.open w' hb hv
theorem IAt.range {B : Nat} {w : World} {b n : Nat} {G : Int → Value} (h : IAt B w (some ⟨b, 0, none⟩) n G) : ∀ w', Below B w w' → w'.rangeAt b 0 ((List.range n).map fun (j : Nat) => G (j : Int)) := fun w' hb j v hv => by
 obtain ⟨b2, off, h1, h2⟩ := h.open
 obtain ⟨hl, e⟩ := List.getElem?_eq_some_iff.1 hv
 have hj : j < n := by simpa using hl
 have e1 := h1 (by omega)
 simp only [Option.some.injEq, Addr.mk.injEq, and_true] at e1
 obtain ⟨rfl, rfl⟩ := e1
 have := h2 w' hb (j : Int) (by omega) (by omega)
 rw [Int.toNat_natCast] at this
 rw [this, ← e]
 simp
theorem ov_loadR {P : Program} {N : Nat} {o : Oper} {F : Fr} {w w1 : World} {T : TypeId} {x : Operand} {B b n : Nat} {G : Int → Value} {dd : TypeDesc} (ho : o.op = .load T x) (hT : P.underlying T = some dd) (hd : dd.isRow = true) (hi : (P.info? T).map (·.size) = some n)
  (hx : Fr.ev F x = some (.pointer (some ⟨b, 0, none⟩))) (hr : IAt B w1 (some ⟨b, 0, none⟩) n G) (hb : Below B w1 w) : OpV P N o F w (arrv n G) :=
 ov_loadN ho hT hd (by rw [hi]; simp) hx (hr.range w hb)
theorem arrv_congr {n : Nat} {G G' : Int → Value} (h : ∀ i : Int, 0 ≤ i → i < n → G i = G' i) : arrv n G = arrv n G' := by
 unfold arrv
 congr 2
 exact List.map_congr_left fun j hj => h j (by omega) (by have := List.mem_range.1 hj; omega)
theorem arrv_cells (n : Nat) (G : Int → Value) : (arrv n G).cells = ((List.range n).map fun (j : Nat) => G (j : Int)).toArray := rfl
theorem ow_boxA {P : Program} {N : Nat} {o : Oper} {F : Fr} {w : World} {B : Nat} {w0 : World} {H : List (Option Blk)} {E : TypeId} {x : Operand} {d n : Nat} {G : Int → Value} (hd : o.dst = some d) (hN : Nat.blt d N = true) (ho : o.op = .box E x) (hx : Fr.ev F x = some (arrv n G)) (hO : Own B w0 w H) :
  OpW P N o F w (fun F' w' => ∃ b, F' = (d, .pointer (some ⟨b, 0, none⟩)) :: F ∧ Own B w0 w' (some (vch b E n G) :: H) ∧ Below w.heap.size w w') := by
 refine (ow_w (v := .pointer (some ⟨w.heap.size, 0, none⟩)) (w' := w.alloc (.cells ((List.range n).map fun (j : Nat) => G (j : Int)).toArray E)) hd hN (fun a ha => ?_)).mono fun F' w' ⟨h1, h2⟩ => ⟨w.heap.size, h1, ?_, by rw [h2]; exact (Below.refl _ _).alloc (Nat.le_refl _) _⟩
 ·unfold execOp
  rw [ho]
  simp [Instr.box, newVar, ha.ev hx, arrv_cells, run_newRow, Result.andThen]
 ·rw [h2]
  exact hO.alloc _ E n _ (by simp) (fun i hi => by simp [hi])
theorem resA {P : Program} {N : Nat} {F : Fr} {w : World} {fn : Func} {t ty : Nat} {b n B : Nat} {t2 : TypeId} {w0 : World} {H : List (Option Blk)} {dd : TypeDesc} {G : Int → Value} (hr : fn.results = #[.cell t ty]) (hv : Fr.get F t = some (.pointer (some ⟨b, 0, none⟩)))
  (hT : P.underlying ty = some dd) (hd : dd.isRow = true) (hi : (P.info? ty).map (·.size) = some n) (hO : Own B w0 w H) (k : Nat) (hk : H[k]? = some (some (vch b t2 n G))) : ∀ a, Holds N F a → (results fn a.tmps).run P w = .ok (arrv n G) w := by
 intro a ha
 have h1 := ha.at_ t _ hv
 have h2 := run_loadVar_mid (P := P) w b 0 ty _ dd (hO.rangeA k hk) hT hd (by rw [hi]; simp)
 simp [results, hr, Array.getD_eq_getD_getElem?, h1, asAddr, h2]
 rfl
end Go.Proofs.YtlldeifbfpmbaaaGreat
