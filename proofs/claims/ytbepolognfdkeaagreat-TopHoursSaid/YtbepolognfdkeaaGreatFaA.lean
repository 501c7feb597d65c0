import Derived.Test.YtbepolognfdkeaaGreatBits0
import Derived.ChangeKeysEq
import Derived.Laws.Cover3
import Derived.MapKept
import Derived.Test.YtbepolognfdkeaaGreatTab
import Derived.Test.YtbepolognfdkeaaGreatOps
set_option maxRecDepth 100000
namespace Go.Proofs.YtbepolognfdkeaaGreat
open Go.RowKit Go.Proofs
theorem ov_convTo {P : Program} {N : Nat} {o : Oper} {F : Fr} {w : World} {S T : TypeId} {x : Operand} {k k' : IntKind} {n m : Int} {ds : TypeDesc} (hm : k.wrap n = m) (ho : o.op = .convert S T x) (hS : P.underlying S = some ds) (hT : P.underlying T = some (.int k)) (hx : Fr.ev F x = some (.int k' n)) : OpV P N o F w (.int k m) := by
 have := ov_conv (P := P) (N := N) (w := w) ho hS hT hx
 rwa [hm] at this
theorem fill_cells (place : Nat → Option (Nat × Nat)) : ∀ (ps : List (Nat × Value)) (c : Array Value), Instr.fill place c (ps.map fun p => (p.1, Value.agg p.2.cells)) = Instr.fill place c ps
 | [], _ => rfl
 | (i, v) :: r, c => by
  have e : (Value.agg v.cells).cells = v.cells := rfl
  simp only [List.map_cons, Instr.fill, e, fill_cells place r]
theorem ow_build1 {P : Program} {N : Nat} {o : Oper} {F : Fr} {w : World} {B : Nat} {w0 : World} {H : List (Option Blk)} {T E : TypeId} {pairs : Array (Nat × Operand)} {d m : Nat} {z : Value} {by_ : Nat} (xs : List Value) (hd : o.dst = some d) (hN : Nat.blt d N = true) (ho : o.op = .buildSlice T m pairs) (hm : xs.length = m)
  (hp : pairs.toList.map (·.1) = List.range' 0 m) (hT : P.underlying T = some (.slice E)) (hinfo : (P.info? E).map (fun i => (i.zero, i.size, i.bytes)) = some (some z, 1, by_)) (hsmall : m ≤ 1000 ∧ 0 < m)
  (hO : Own B w0 w H) (hx : Fr.evs F (pairs.toList.map (·.2)) = some xs) (hs : xs.all (·.oneCell') = true) :
  OpW P N o F w (fun F' w' => ∃ b, F' = (d, .slice (some ⟨b, 0, none⟩) m m) :: F ∧ Own B w0 w' (some (vch b E m (fun i => xs.getD i.toNat undef)) :: H) ∧ Below w.heap.size w w') := by
 obtain ⟨i, hi, hz0, hsz, hby⟩ := info_parts hinfo
 have hs' : ∀ x ∈ xs, x.cells = #[x] := fun x hx => cells_one (List.all_eq_true.1 hs x hx)
 obtain ⟨c', h1, h2, h3⟩ := fill_seq 1 (xs.map fun x => [x]) 0 ((Array.range m).map (z.cells[· % z.cells.size]!)) (by simp) (by simp [hm])
 refine (ow_w (v := .slice (some ⟨w.heap.size, 0, none⟩) m m) (w' := w.alloc (.cells c' E)) hd hN (fun a ha => ?_)).mono fun F' w' ⟨g1, g2⟩ => ⟨w.heap.size, g1, ?_, by rw [g2]; exact (Below.refl _ _).alloc (Nat.le_refl _) _⟩
 ·have e := ha.evs hx
  have hparts : (pairs.toList.map fun (p : Nat × Operand) => (p.1, a.eval p.2)) = (List.range' 0 xs.length).zip xs := by
   rw [hm, ← hp, ← e]
   generalize pairs.toList = l
   induction l with
   | nil => rfl
   | cons p l ih => simp only [List.map_cons, List.zip_cons_cons, ih]
  have hf : Instr.fill (fun i => some (i, 1)) ((Array.range m).map (z.cells[· % z.cells.size]!)) ((List.range' 0 xs.length).zip xs) = some c' := by
   rw [← h1, ← fill_cells]
   congr 1
   ·funext i; simp
   ·rw [List.length_map, List.map_map]
    have hq : ∀ (l : List Value) (o : Nat), (∀ x ∈ l, x.cells = #[x]) → ((List.range' o l.length).zip l).map (fun p => (p.1, Value.agg p.2.cells)) = (List.range' o l.length).zip (l.map ((fun x => Value.agg x.toArray) ∘ fun x => [x])) := by
     intro l
     induction l with
     | nil => intro o _; rfl
     | cons x l ih =>
      intro o hl
      simp only [List.length_cons, List.range'_succ, List.zip_cons_cons, List.map_cons, ih (o + 1) (fun y hy => hl y (List.mem_cons_of_mem _ hy)), hl x (List.mem_cons_self ..)]
      rfl
    exact hq xs 0 hs'
  have h0 : ¬ m = 0 := by omega
  have h24 : ¬ (m > 2 ^ 24) := by omega
  unfold execOp
  rw [ho]
  simp [Instr.buildSlice, run_underlying hT, sizeOf, typeInfo, zeroValue, hi, hz0, hsz, h24, h0, Result.andThen, hparts, hf, run_newRow]
 ·rw [g2]
  refine hO.alloc c' E m _ (by rw [h2]; simp) (fun j hj => ?_)
  rw [h3 j, if_pos ⟨by simp, by simpa [hm] using hj⟩]
  simp [hm, hj, Nat.mod_one]
theorem ov_isnil {P : Program} {N : Nat} {o : Oper} {F : Fr} {w : World} {T U E : TypeId} {x : Operand} {ao : Option Addr} {n c : Nat} (ho : o.op = .binOp .eql T x (.const (.slice none 0 0)) U) (hT : P.underlying T = some (.slice E)) (hx : Fr.ev F x = some (.slice ao n c)) : OpV P N o F w (.bool ao.isNone) := by
 intro a ha
 unfold execOp
 have h1 := run_equal_slice_nil (P := P) (w := w) T E ao n c hT
 have hn : a.eval (.const (.slice none 0 0)) = .slice none 0 0 := rfl
 simp only [ho, ha.ev hx, hn, Sem.run_bind, eqGuard]
 simp [binOp, h1, Result.andThen]
end Go.Proofs.YtbepolognfdkeaaGreat
set_option maxRecDepth 100000
namespace Go.Proofs.YtbepolognfdkeaaGreat
open Go.RowKit Go.Proofs
abbrev iv (n : Int) : Value := .int .i64 n
abbrev ptr (b : Nat) : Value := .pointer (some ⟨b, 0, none⟩)
def SrcI (H : List (Option Blk)) (ao : Option Addr) (n : Nat) (g : Int → Int) : Prop := ∀ (B : Nat) (w0 w : World), Own B w0 w H → IAt w.heap.size w ao n (fun i => iv (g i))
section
variable {P : Program} {f N : Nat} {k : List Item} {F : Fr} {w : World} {R : Ending → World → Prop} {o : Oper} {B : Nat} {w0 : World} {H : List (Option Blk)}
theorem run_once {c : Code} (h : Run P f N (.code c :: .inLoop c :: k) F w R) : Run P f N (.code (.loop c) :: k) F w R := fun a ha => RunA.of_step (fun _ => .one step_loop) (h a ha)
theorem run_again {c : Code} (h : Run P f N (.code c :: .inLoop c :: k) F w R) : Run P f N (.inLoop c :: k) F w R := fun a ha => RunA.of_step (fun _ => .one step_inLoop) (h a ha)
end
end Go.Proofs.YtbepolognfdkeaaGreat
set_option maxRecDepth 100000
namespace Go.Proofs.YtbepolognfdkeaaGreat
open Go.RowKit Go.Proofs Go.MapKept
def ents : List (Int × Value) → Nat → List MapEntry
 | [], _ => []
 | (k, v) :: r, s => ⟨.int .i64 k, v, s⟩ :: ents r (s + 1)
def fnd : List (Int × Value) → Int → Nat → Option (Nat × Value)
 | [], _, _ => none
 | (j, v) :: r, k, i => if k = j then some (i, v) else fnd r k (i + 1)
def mput : List (Int × Value) → Int → Value → List (Int × Value)
 | [], k, v => [(k, v)]
 | (j, u) :: r, k, v => if k = j then (k, v) :: r else (j, u) :: mput r k v
def mch (b : Nat) (L : List (Int × Value)) : Blk := ⟨b, 0, 0, fun _ => undef, some (.map (ents L 0).toArray L.length)⟩
theorem findNow_ents : ∀ (L : List (Int × Value)) (s : Nat) (k : Int) (i : Nat), Instr.findNow (.int .i64) (.int .i64 k) (ents L s) i = some (fnd L k i)
 | [], _, _, _ => rfl
 | (j, v) :: r, s, k, i => by
  unfold ents Instr.findNow fnd
  simp only [Instr.sameNow, if_true]
  by_cases h : k = j
  ·subst h; simp
  ·have : (k == j) = false := by simpa using h
   simp only [this, if_neg h]
   exact findNow_ents r (s + 1) k (i + 1)
theorem fnd_some : ∀ {L : List (Int × Value)} {k : Int} {i j : Nat} {u : Value}, fnd L k i = some (j, u) → ∃ m, j = i + m ∧ ∀ s v, (ents L s)[m]?.map (·.key) = some (.int .i64 k) ∧ (ents L s).modify m (fun e => { e with key := .int .i64 k, val := v }) = ents (mput L k v) s ∧ (mput L k v).length = L.length
 | [], _, _, _, _, h => by cases h
 | (j0, u0) :: r, k, i, j, u, h => by
  unfold fnd at h
  by_cases e : k = j0
  ·subst e
   simp only [if_true, Option.some.injEq, Prod.mk.injEq] at h
   refine ⟨0, by omega, fun s v => ?_⟩
   simp [ents, mput]
  ·rw [if_neg e] at h
   obtain ⟨m, h1, h2⟩ := fnd_some h
   refine ⟨m + 1, by omega, fun s v => ?_⟩
   obtain ⟨h3, h4, h5⟩ := h2 (s + 1) v
   unfold mput
   rw [if_neg e]
   refine ⟨by simpa [ents] using h3, by simp [ents, h4], by simp [h5]⟩
theorem fnd_none : ∀ {L : List (Int × Value)} {k : Int} {i : Nat}, fnd L k i = none → ∀ s v, ents L s ++ [⟨.int .i64 k, v, s + L.length⟩] = ents (mput L k v) s ∧ (mput L k v).length = L.length + 1
 | [], _, _, _ => fun s v => by simp [ents, mput]
 | (j0, u0) :: r, k, i, h => fun s v => by
  unfold fnd at h
  by_cases e : k = j0
  ·rw [if_pos e] at h; cases h
  ·rw [if_neg e] at h
   obtain ⟨h1, h2⟩ := fnd_none h (s + 1) v
   unfold mput
   rw [if_neg e]
   refine ⟨?_, by simp [h2]⟩
   simp only [ents, List.cons_append, List.length_cons]
   rw [show s + (r.length + 1) = s + 1 + r.length by omega, h1]
theorem mput_keys : ∀ (L : List (Int × Value)) (k : Int) (v : Value) (x : Int), x ∈ (mput L k v).map (·.1) → x = k ∨ x ∈ L.map (·.1)
 | [], k, v, x, h => by simpa [mput] using h
 | (j0, u0) :: r, k, v, x, h => by
  unfold mput at h
  by_cases e : k = j0
  ·rw [if_pos e] at h
   simp only [List.map_cons, List.mem_cons] at h ⊢
   rcases h with h | h
   ·exact .inl h
   ·exact .inr (.inr h)
  ·rw [if_neg e] at h
   simp only [List.map_cons, List.mem_cons] at h ⊢
   rcases h with h | h
   ·exact .inr (.inl h)
   ·rcases mput_keys r k v x h with h | h
    ·exact .inl h
    ·exact .inr (.inr h)
theorem mput_nodup : ∀ {L : List (Int × Value)} (k : Int) (v : Value), (L.map (·.1)).Nodup → ((mput L k v).map (·.1)).Nodup
 | [], k, v, _ => by simp [mput]
 | (j0, u0) :: r, k, v, h => by
  simp only [List.map_cons, List.nodup_cons] at h
  unfold mput
  by_cases e : k = j0
  ·rw [if_pos e]; simp only [List.map_cons, List.nodup_cons]; rw [e]; exact h
  ·rw [if_neg e]
   simp only [List.map_cons, List.nodup_cons]
   refine ⟨fun hm => ?_, mput_nodup k v h.2⟩
   rcases mput_keys r k v j0 hm with h1 | h1
   ·exact e h1.symm
   ·exact h.1 h1
section
variable {P : Program} {f N : Nat} {o : Oper} {F : Fr} {w : World} {k : List Item} {R : Ending → World → Prop} {ops : Array Oper} {rest : List Oper} {B : Nat} {w0 : World} {H : List (Option Blk)}
theorem Own.mapAt (h : Own B w0 w H) (kk : Nat) {b : Nat} {L : List (Int × Value)} (hk : H[kk]? = some (some (mch b L))) : w.heap[b]? = some (.map (ents L 0).toArray L.length) := h.gets kk hk
theorem ow_mapput {T kt et : TypeId} {x ix y : Operand} {v : Value} {b : Nat} {i : Int} {L : List (Int × Value)} (hd : o.dst = none) (ho : o.op = .mapUpdate T x ix y) (hT : P.underlying T = some (.map kt et)) (hk : P.underlying kt = some (.int .i64))
  (hO : Own B w0 w H) (kk : Nat) (hkk : H[kk]? = some (some (mch b L))) (hx : Fr.ev F x = some (.map (some b))) (hi : Fr.ev F ix = some (.int .i64 i)) (hy : Fr.ev F y = some v) :
  OpW P N o F w (fun F' w' => F' = F ∧ Own B w0 w' (H.set kk (some (mch b (mput L i v)))) ∧ w'.heap.size = w.heap.size) := by
 have hm := hO.mapAt kk hkk
 have h1 := run_findKey (P := P) (w := w) hk (findNow_ents L 0 i 0)
 have h2 : ∀ e n, (Instr.checkKey e (n + 1) kt (.int .i64 i)).run P w = .ok () w := fun e n => run_checkKey hk (by simp [IsKey]) e n
 have h3 := h2 false 9999
 have hlt : b < w.heap.size := (Array.getElem?_eq_some_iff.1 hm).1
 have hrun : (Instr.mapUpdate T (.map (some b)) (.int .i64 i) v).run P w = .ok () { w with heap := w.heap.setIfInBounds b (.map (ents (mput L i v) 0).toArray (mput L i v).length) } := by
  unfold Instr.mapUpdate
  simp only [Sem.run_bind, run_underlying hT, Result.andThen_ok, MapKept.run_getObj_map hm, h3, h1]
  cases hf : fnd L i 0 with
  | none =>
   obtain ⟨g1, g2⟩ := fnd_none hf 0 v
   simp only [MapKept.run_setObj_map _ hm]
   rw [Nat.zero_add] at g1
   rw [← g1, g2]
   simp
  | some p =>
   obtain ⟨q, u⟩ := p
   obtain ⟨m, e, g⟩ := fnd_some hf
   obtain ⟨g1, g2, g3⟩ := g 0 v
   rw [Nat.zero_add] at e
   subst e
   have hkey : (((ents L 0).toArray[q]?).map (·.key)).getD (.int .i64 i) = .int .i64 i := by
    rw [List.getElem?_toArray, g1]; rfl
   have hst : (Instr.keyThatStays (.int .i64 i) (.int .i64 i)).run P w = .ok (.int .i64 i) w := run_keyThatStays (d := .int .i64) (by simp [IsKey])
   simp only [hkey, Sem.run_bind, hst, Result.andThen_ok, MapKept.run_setObj_map _ hm, g3]
   rw [← g2]
   simp
 refine (ow_u (w' := { w with heap := w.heap.setIfInBounds b (.map (ents (mput L i v) 0).toArray (mput L i v).length) }) hd (fun a ha => ?_)).mono fun F' w' ⟨e1, e2⟩ => ⟨e1, ?_, by rw [e2]; simp⟩
 ·unfold execOp
  simp only [ho, ha.ev hx, ha.ev hi, ha.ev hy, Sem.run_bind, hrun, Result.andThen_ok, Sem.run_pure]
 ·rw [e2]
  have hge := hO.ge _ (List.mem_of_getElem? hkk)
  refine hO.updBB kk hkk ⟨rfl, rfl, rfl, by simp, fun j hj => ?_⟩ (fun j _ hj => ?_) ?_ hge (.inl rfl)
  ·exact (heap_set hm).2 j (by intro e; rw [e] at hj; exact Nat.lt_irrefl _ (Nat.lt_of_lt_of_le hj hge))
  ·exact (heap_set hm).2 j hj
  ·exact (heap_set hm).1
theorem ow_makemap {T : TypeId} {d : Nat} (hd : o.dst = some d) (hN : Nat.blt d N = true) (ho : o.op = .makeMap T none) (hO : Own B w0 w H) :
  OpW P N o F w (fun F' w' => ∃ b, F' = (d, .map (some b)) :: F ∧ Own B w0 w' (some (mch b []) :: H) ∧ Below w.heap.size w w') := by
 refine (ow_w (v := .map (some w.heap.size)) (w' := w.alloc (.map #[] 0)) hd hN (fun a ha => ?_)).mono fun F' w' ⟨h1, h2⟩ => ⟨w.heap.size, h1, ?_, by rw [h2]; exact (Below.refl _ _).alloc (Nat.le_refl _) _⟩
 ·unfold execOp
  rw [ho]
  simp [Instr.makeMap, Result.andThen]
 ·rw [h2]
  have hp : Own B w0 (w.alloc (.map #[] 0)) H := hO.past ((Below.refl _ _).alloc (Nat.le_refl _) _)
  refine hp.consB ?_ hO.size (fun y hy => ?_)
  ·show (w.alloc (.map #[] 0)).heap[w.heap.size]? = some (.map #[] 0)
   exact (heap_alloc w _).1
  ·have := blkIs.lt (hO.at_ y hy)
   show w.heap.size ≠ y.b
   omega
end
end Go.Proofs.YtbepolognfdkeaaGreat
namespace Go.Proofs.YtbepolognfdkeaaGreat
open Go.RowKit
section
variable {P : Program} {f N : Nat} {k : List Item} {F : Fr} {w : World} {R : Ending → World → Prop} {ops : Array Oper} {o : Oper} {S : World → Prop} {fuel L : Nat} {listed : Array Bool} {Q : Exit → Act → World → Prop}
def wpLate (P : Program) (ops : Array Oper) (Q : Exit → Act → World → Prop) (S : World → Prop) (L : Nat) : Nat → Array Bool → Act → World → Prop
 | 0, listed, a, w => Region.ready .any ops listed = [] ∧ Q .normal a w
 | fuel + 1, listed, a, w => (Region.ready .any ops listed = [] → Q .normal a w) ∧ ∀ i ∈ Region.ready .any ops listed, wpOp P ops Q i (fun a' w' => (i = L ∨ S w') ∧ wpLate P ops Q S L fuel (listed.setIfInBounds i true) a' w') a w
theorem any_of_late : ∀ (fuel : Nat) (listed : Array Bool) (a : Act) (w : World), wpLate P ops Q S L fuel listed a w → wpAny P .any ops Q fuel listed a w
 | 0, _, _, _, h => h
 | fuel + 1, _, _, _, h => ⟨h.1, fun i hi => wpOp_mono (fun a' w' h' => any_of_late fuel _ a' w' h'.2) (h.2 i hi)⟩
def waitsB (ops : Array Oper) (L i : Nat) : Bool := ((ops[L]?).map fun o => o.after.any fun e => Region.binds .any e && e.on == i).getD false
theorem waits_spec {i : Nat} (h : waitsB ops L i = true) (hr : L ∈ Region.ready .any ops listed) : listed.getD i false = true := by
 obtain ⟨_, o, ho, hall⟩ := mem_ready.1 hr
 unfold waitsB at h
 rw [ho] at h
 simp only [Option.map_some, Option.getD_some, Array.any_eq_true, Bool.and_eq_true, beq_iff_eq] at h
 obtain ⟨j, hj, h1, h2⟩ := h
 rw [← h2]
 exact hall _ (Array.getElem_mem hj) h1
theorem late_first {i : Nat} {oi : Oper} {v : Value} (hi : ops[i]? = some oi) (hsel : ∀ (j : Nat) (o : Oper) cs b, ops[j]? = some o → o.op ≠ .select cs b)
  (hQ : ∀ c a w, Q (.panic c) (a.put oi.dst v) w → Q (.panic c) a w) (hL : waitsB ops L i = true) :
  ∀ (fuel : Nat) (listed : Array Bool) (a : Act) (w : World),
   (∀ j oj, ops[j]? = some oj → j ≠ i → listed.getD j true = false → (∀ e ∈ oj.after, Region.binds .any e = true → e.on ≠ i) → oi.apart ops oj = true) →
   i ∈ Region.ready .any ops listed → YieldsIf P ops S oi v a → S w →
   wpLate P ops Q S L fuel (listed.setIfInBounds i true) (a.put oi.dst v) w → wpLate P ops Q S L (fuel + 1) listed a w := by
 intro fuel
 induction fuel with
 | zero =>
  intro listed a w _ hr hy hS H
  refine ⟨fun h => (by rw [h] at hr; cases hr), fun j hj => ?_⟩
  by_cases hji : j = i
  ·subst hji; exact hy.wpOp hi hS ⟨.inr hS, H⟩
  ·have := ready_mono hj hji
   rw [H.1] at this
   cases this
 | succ fuel ih =>
  intro listed a w hfree hr hy hS H
  refine ⟨fun h => (by rw [h] at hr; cases hr), fun j hj => ?_⟩
  by_cases hji : j = i
  ·subst hji; exact hy.wpOp hi hS ⟨.inr hS, H⟩
  ·have hout : ∀ b : Bool, listed.getD i false = true → listed.getD i true = false → False := fun _ h1 h0 => by
    rcases Nat.lt_or_ge i listed.size with h' | h'
    ·simp [h'] at h0 h1; rw [h0] at h1; cases h1
    ·simp [Array.getElem?_eq_none h'] at h1
   have h0 := (mem_ready.1 hr).1
   have hjL : j ≠ L := fun e => hout true (waits_spec hL (e ▸ hj)) h0
   have h1 := H.2 j (ready_mono hj hji)
   obtain ⟨hjun, oj, hoj, hall⟩ := mem_ready.1 hj
   have hnot : ∀ e ∈ oj.after, Region.binds .any e = true → e.on ≠ i := fun e he hb heq => by
    have h1 := hall e he hb
    rw [heq] at h1
    exact hout true h1 h0
   have h2 := wpOp_putIf hoj (hfree j oj hoj hji hjun hnot) (fun cs b => hsel i oi cs b hi) (fun cs b => hsel j oj cs b hoj) hQ hy h1
   have hfree' : ∀ k ok, ops[k]? = some ok → k ≠ i → (listed.setIfInBounds j true).getD k true = false →
     (∀ e ∈ ok.after, Region.binds .any e = true → e.on ≠ i) → oi.apart ops ok = true := fun k ok hk hki hun hno => by
    refine hfree k ok hk hki ?_ hno
    by_cases hjk : j = k
    ·subst hjk; exact hjun
    ·rw [getD_set_ne true hjk] at hun; exact hun
   refine wpOp_mono (fun a' w' h3 => ?_) h2
   have hS' : S w' := h3.2.1.resolve_left hjL
   refine ⟨.inr hS', ih (listed.setIfInBounds j true) a' w' hfree' (ready_mono hr (Ne.symm hji)) h3.1 hS' ?_⟩
   rw [Array.setIfInBounds_comm _ _ hji]
   exact h3.2.2
def RHL (P : Program) (f N : Nat) (ops : Array Oper) (S : World → Prop) (L fuel : Nat) (listed : Array Bool) (k : List Item) (F : Fr) (w : World) (R : Ending → World → Prop) : Prop :=
 ∀ a, Holds N F a → wpLate P ops (QK P f k R) S L fuel listed a w
theorem run_late {id : Nat} {l : List Oper} (S : World → Prop) (L : Nat) (hm : P.follows .mixedOrders = true) (h : RHL P f N l.toArray S L l.length (Array.replicate l.length false) k F w.drew R) : Run P f N (.code (.region id l.toArray true) :: k) F w R :=
 fun a ha => runA_of_wp (wp_region_any hm (any_of_late _ _ _ _ (by simpa using h a ha)))
theorem rhl_v {d : Nat} {v : Value} {oi : Oper} (i : Nat) (hi : ops[i]? = some oi) (hs : (Region.noSelect ops && Region.free .any ops listed i && (Region.ready .any ops listed).contains i && waitsB ops L i) = true)
  (hg : oi.guard = none) (hd : oi.dst = some d) (hN : Nat.blt d N = true) (hS : S w) (hv : ∀ w', S w' → OpV P N oi F w' v) (h : RHL P f N ops S L fuel (listed.setIfInBounds i true) k ((d, v) :: F) w R) : RHL P f N ops S L (fuel + 1) listed k F w R := by
 intro a ha
 simp only [Bool.and_eq_true] at hs
 refine late_first hi (Region.noSelect_spec hs.1.1.1) (fun _ _ _ h => qk_put h) hs.2 fuel listed a w (Region.free_spec hi hs.1.1.2) (by simpa using hs.1.2) (v := v) (.inl ⟨by simp [Region.wanted, hg], fun w' hw' => hv w' hw' a ha⟩) hS ?_
 rw [hd]
 exact h _ (ha.put (lt_of_blt hN) v)
theorem rhl_done (hr : (Region.ready .any ops listed).isEmpty = true) (h : Run P f N k F w R) : RHL P f N ops S L fuel listed k F w R := by
 intro a ha
 have hr' : Region.ready .any ops listed = [] := by simpa using hr
 cases fuel with
 | zero => exact ⟨hr', h a ha⟩
 | succ fuel => exact ⟨fun _ => h a ha, by rw [hr']; simp⟩
def RCL (P : Program) (f N : Nat) (ops : Array Oper) (S : World → Prop) (L fuel : Nat) (listed : Array Bool) (k : List Item) (i : Nat) (F : Fr) (w : World) (R : Ending → World → Prop) : Prop :=
 ∀ a, Holds N F a → wpOp P ops (QK P f k R) i (fun a' w' => (i = L ∨ S w') ∧ wpLate P ops (QK P f k R) S L fuel (listed.setIfInBounds i true) a' w') a w
theorem rcl_op {oi : Oper} {i : Nat} {Post : Fr → World → Prop} (hi : ops[i]? = some oi) (hg : oi.guard = none) (hw : OpW P N oi F w Post)
  (h : ∀ F' w', Post F' w' → S w' ∧ RHL P f N ops S L fuel (listed.setIfInBounds i true) k F' w' R) : RCL P f N ops S L fuel listed k i F w R := by
 intro a ha
 unfold wpOp
 rw [hi]
 simp only [Region.wanted, hg, if_true]
 exact .inl (hw a ha _ _ fun F' a' w' hp ha' => ⟨.inr (h F' w' hp).1, (h F' w' hp).2 a' ha'⟩)
theorem rcl_last {oi : Oper} {Post : Fr → World → Prop} (hi : ops[L]? = some oi) (hg : oi.guard = none) (hw : OpW P N oi F w Post)
  (h : ∀ F' w', Post F' w' → RHL P f N ops S L fuel (listed.setIfInBounds L true) k F' w' R) : RCL P f N ops S L fuel listed k L F w R := by
 intro a ha
 unfold wpOp
 rw [hi]
 have hwt : Region.wanted oi (yielded ops a.tmps) = true := by simp [Region.wanted, hg]
 show (if Region.wanted oi (yielded ops a.tmps) = true then _ else _)
 rw [if_pos hwt]
 exact .inl (hw a ha _ _ fun F' a' w' hp ha' => ⟨.inl rfl, h F' w' hp a' ha'⟩)
theorem late_all {rs : List Nat} {a : Act} (hr : Region.ready .any ops listed = rs) (hne : rs ≠ [])
  (h : ∀ i ∈ rs, wpOp P ops Q i (fun a' w' => (i = L ∨ S w') ∧ wpLate P ops Q S L fuel (listed.setIfInBounds i true) a' w') a w) : wpLate P ops Q S L (fuel + 1) listed a w :=
 ⟨fun h0 => absurd (hr ▸ h0) hne, hr ▸ h⟩
theorem rhl_any1 (i : Nat) (hr : Region.ready .any ops listed = [i]) (h : RCL P f N ops S L fuel listed k i F w R) : RHL P f N ops S L (fuel + 1) listed k F w R := by
 intro a ha
 refine late_all hr (by simp) fun j hj => ?_
 obtain rfl : j = i := by simpa using hj
 exact h a ha
end
end Go.Proofs.YtbepolognfdkeaaGreat
namespace Go.Proofs.YtbepolognfdkeaaGreat
def sumTo (f : Int → Int) : Nat → Int
 | 0 => 0
 | n + 1 => sumTo f n + f n
def sm (f : Int → Int) (k : Int) : Int := sumTo f k.toNat
theorem sm_zero (f : Int → Int) : sm f 0 = 0 := rfl
theorem sm_neg (f : Int → Int) {k : Int} (h : k ≤ 0) : sm f k = 0 := by
 unfold sm; rw [show k.toNat = 0 by omega]; rfl
theorem sm_succ (f : Int → Int) {k : Int} (h : 0 ≤ k) : sm f (k + 1) = sm f k + f k := by
 unfold sm
 rw [show (k + 1).toNat = k.toNat + 1 by omega]
 simp only [sumTo, Int.toNat_of_nonneg h]
theorem sm_ind {f : Int → Int} {p : Int → Int → Prop} (h0 : p 0 0) (hs : ∀ k : Int, 0 ≤ k → ∀ s, p k s → p (k + 1) (s + f k)) {k : Int} (hk : 0 ≤ k) : p k (sm f k) := by
 obtain ⟨n, rfl⟩ := Int.eq_ofNat_of_zero_le hk
 induction n with
 | zero => exact h0
 | succ n ih =>
  have e : ((n + 1 : Nat) : Int) = (n : Int) + 1 := by omega
  rw [e, sm_succ f (by omega)]
  exact hs n (by omega) _ (ih (by omega))
theorem sm_congr {f g : Int → Int} {k : Int} (h : ∀ i : Int, 0 ≤ i → i < k → f i = g i) : sm f k = sm g k := by
 unfold sm
 have key : ∀ n : Nat, (n : Int) ≤ k → sumTo f n = sumTo g n := by
  intro n
  induction n with
  | zero => intro _; rfl
  | succ n ih => intro hn; simp only [sumTo]; rw [ih (by omega), h n (by omega) (by omega)]
 by_cases hk : 0 ≤ k
 ·exact key _ (by omega)
 ·rw [show k.toNat = 0 by omega]; rfl
theorem sm_le {f g : Int → Int} {k : Int} (h : ∀ i : Int, 0 ≤ i → i < k → f i ≤ g i) : sm f k ≤ sm g k := by
 unfold sm
 have key : ∀ n : Nat, (n : Int) ≤ k → sumTo f n ≤ sumTo g n := by
  intro n
  induction n with
  | zero => intro _; exact Int.le_refl _
  | succ n ih => intro hn; simp only [sumTo]; have := ih (by omega); have := h n (by omega) (by omega); omega
 by_cases hk : 0 ≤ k
 ·exact key _ (by omega)
 ·rw [show k.toNat = 0 by omega]; exact Int.le_refl _
theorem sm_const (c : Int) {k : Int} (hk : 0 ≤ k) : sm (fun _ => c) k = k * c := by
 obtain ⟨n, rfl⟩ := Int.eq_ofNat_of_zero_le hk
 induction n with
 | zero => simp [sm, sumTo]
 | succ n ih =>
  have e : ((n + 1 : Nat) : Int) = (n : Int) + 1 := by omega
  rw [e, sm_succ _ (by omega), ih (by omega), Int.add_mul, Int.one_mul]
theorem sm_bound {f : Int → Int} {k : Int} (M : Int) (hk : 0 ≤ k) (h : ∀ i : Int, 0 ≤ i → i < k → f i ≤ M) : sm f k ≤ k * M := by
 rw [← sm_const M hk]; exact sm_le h
theorem sm_bound' {f : Int → Int} {k : Int} (M : Int) (hk : 0 ≤ k) (h : ∀ i : Int, 0 ≤ i → i < k → M ≤ f i) : k * M ≤ sm f k := by
 rw [← sm_const M hk]; exact sm_le h
theorem sm_nonneg {f : Int → Int} {k : Int} (h : ∀ i : Int, 0 ≤ i → i < k → 0 ≤ f i) : 0 ≤ sm f k := by
 by_cases hk : 0 ≤ k
 ·have := sm_bound' 0 hk h; simpa using this
 ·rw [sm_neg f (by omega)]; exact Int.le_refl _
theorem sm_add (f g : Int → Int) (k : Int) : sm (fun i => f i + g i) k = sm f k + sm g k := by
 unfold sm
 induction k.toNat with
 | zero => rfl
 | succ n ih => simp only [sumTo]; omega
theorem sm_sub (f g : Int → Int) (k : Int) : sm (fun i => f i - g i) k = sm f k - sm g k := by
 unfold sm
 induction k.toNat with
 | zero => rfl
 | succ n ih => simp only [sumTo]; omega
theorem sm_mul (c : Int) (f : Int → Int) (k : Int) : sm (fun i => c * f i) k = c * sm f k := by
 unfold sm
 induction k.toNat with
 | zero => simp [sumTo]
 | succ n ih => simp only [sumTo]; rw [ih, Int.mul_add]
theorem sm_swap (f : Int → Int → Int) (n m : Int) : sm (fun i => sm (fun j => f i j) m) n = sm (fun j => sm (fun i => f i j) n) m := by
 unfold sm
 induction n.toNat with
 | zero =>
  simp only [sumTo]
  induction m.toNat with
  | zero => rfl
  | succ m ih => simp only [sumTo]; omega
 | succ n ih =>
  simp only [sumTo]
  rw [ih]
  induction m.toNat with
  | zero => rfl
  | succ m ih2 =>
   simp only [sumTo]
   omega
theorem sm_upd (f : Int → Int) (i x : Int) {k : Int} (h0 : 0 ≤ i) (hi : i < k) : sm (upd f i x) k = sm f k - f i + x := by
 obtain ⟨n, rfl⟩ := Int.eq_ofNat_of_zero_le (show 0 ≤ k by omega)
 induction n with
 | zero => omega
 | succ n ih =>
  have e : ((n + 1 : Nat) : Int) = (n : Int) + 1 := by omega
  rw [e, sm_succ _ (by omega), sm_succ _ (by omega)]
  by_cases hin : i < n
  ·rw [ih hin, upd_ne _ _ (by omega)]; omega
  ·have : i = n := by omega
   subst this
   rw [upd_same, sm_congr (g := f) (fun j _ hj => upd_ne _ _ (by omega))]; omega
theorem sm_pos {f : Int → Int} {k : Int} (h : ∀ i : Int, 0 ≤ i → i < k → 0 ≤ f i) (i : Int) (h0 : 0 ≤ i) (hi : i < k) : f i ≤ sm f k := by
 have e := sm_upd f i 0 h0 hi
 have : 0 ≤ sm (upd f i 0) k := sm_nonneg fun j a b => by
  unfold upd; split
  ·exact Int.le_refl _
  ·exact h j a b
 omega
theorem mulb {a b A B : Int} (ha : 0 ≤ a) (ha2 : a ≤ A) (hb : 0 ≤ b) (hb2 : b ≤ B) : 0 ≤ a * b ∧ a * b ≤ A * B :=
 ⟨Int.mul_nonneg ha hb, Int.mul_le_mul ha2 hb2 hb (by omega)⟩
end Go.Proofs.YtbepolognfdkeaaGreat
set_option maxRecDepth 100000
namespace Go.Proofs.YtbepolognfdkeaaGreat
open Go.RowKit Go.Proofs
def rk (f : Int → Int) : Nat → Int → Int
 | 0, _ => 0
 | n + 1, x => if rk f n x < n then rk f n x else if f n = x then n else n + 1
theorem rk_rng (f : Int → Int) (x : Int) : ∀ n : Nat, 0 ≤ rk f n x ∧ rk f n x ≤ n
 | 0 => ⟨Int.le_refl _, Int.le_refl _⟩
 | n + 1 => by
  have h := rk_rng f x n
  unfold rk
  split
  ·omega
  ·split <;> omega
theorem rk_at {f : Int → Int} {x : Int} : ∀ {n : Nat}, rk f n x < n → f (rk f n x) = x
 | 0, h => absurd h (by show ¬ (0 : Int) < 0; decide)
 | n + 1, h => by
  unfold rk at h ⊢
  split
  ·exact rk_at ‹_›
  ·rename_i h1
   rw [if_neg h1] at h
   split
   ·assumption
   ·rename_i h2
    rw [if_neg h2] at h
    omega
theorem rk_ne {f : Int → Int} {x : Int} : ∀ {n : Nat} {k : Int}, 0 ≤ k → k < rk f n x → f k ≠ x
 | 0, k, k0, h => by have h2 : k < 0 := h; omega
 | n + 1, k, k0, h => by
  have hr := rk_rng f x n
  unfold rk at h
  split at h
  ·exact rk_ne k0 h
  ·split at h
   ·exact rk_ne (n := n) k0 (by omega)
   ·rename_i h1 h2
    by_cases e : k = n
    ·rw [e]; exact h2
    ·exact rk_ne (n := n) k0 (by omega)
theorem rk_of {f : Int → Int} {n : Nat} {k x : Int} (hd : ∀ a b : Int, 0 ≤ a → a < n → 0 ≤ b → b < n → f a = f b → a = b) (k0 : 0 ≤ k) (k1 : k < n) (e : f k = x) : rk f n x = k := by
 have hr := rk_rng f x n
 have h1 : rk f n x < n := Classical.byContradiction fun h => rk_ne (n := n) k0 (by omega) e
 exact hd _ _ hr.1 h1 k0 k1 ((rk_at h1).trans e.symm)
end Go.Proofs.YtbepolognfdkeaaGreat
