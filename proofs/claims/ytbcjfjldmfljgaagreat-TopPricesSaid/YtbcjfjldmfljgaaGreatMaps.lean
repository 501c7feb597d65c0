import Derived.Test.YtbcjfjldmfljgaaGreatRul
import Derived.MapKept
set_option maxRecDepth 100000
namespace Go.Proofs.YtbcjfjldmfljgaaGreat
open Go.RowKit Go.Proofs Go.MapKept
def ents : List (Int × Value) → Nat → List MapEntry
 | [], _ => []
 | (k, v) :: r, s => ⟨.int .i64 k, v, s⟩ :: ents r (s + 1)
def fnd : List (Int × Value) → Int → Nat → Option (Nat × Value)
 | [], _, _ => none
 | (j, v) :: r, k, i => if k = j then some (i, v) else fnd r k (i + 1)
def lkp : List (Int × Value) → Int → Option Value
 | [], _ => none
 | (j, v) :: r, k => if k = j then some v else lkp r k
def mput : List (Int × Value) → Int → Value → List (Int × Value)
 | [], k, v => [(k, v)]
 | (j, u) :: r, k, v => if k = j then (k, v) :: r else (j, u) :: mput r k v
def mch (b : Nat) (L : List (Int × Value)) : Blk := ⟨b, 0, 0, fun _ => undef, some (.map (ents L 0).toArray L.length)⟩
theorem fnd_lkp : ∀ (L : List (Int × Value)) (k : Int) (i : Nat), (fnd L k i).map (·.2) = lkp L k
 | [], _, _ => rfl
 | (j, v) :: r, k, i => by unfold fnd lkp; split; rfl; exact fnd_lkp r k (i + 1)
theorem findNow_ents : ∀ (L : List (Int × Value)) (s : Nat) (k : Int) (i : Nat), Instr.findNow (.int .i64) (.int .i64 k) (ents L s) i = some (fnd L k i)
 | [], _, _, _ => rfl
 | (j, v) :: r, s, k, i => by
  unfold ents Instr.findNow fnd
  simp only [Instr.sameNow, if_true]
  by_cases h : k = j
  ·subst h; simp
  ·have : (k == j) = false := by simpa using h
   simp only [this, if_neg h]
   exact findNow_ents r (s + 1) k (i + 1)
theorem fnd_some : ∀ {L : List (Int × Value)} {k : Int} {i j : Nat} {u : Value}, fnd L k i = some (j, u) → ∃ m, j = i + m ∧ ∀ s v, (ents L s)[m]?.map (·.key) = some (.int .i64 k) ∧ (ents L s).modify m (fun e => { e with key := .int .i64 k, val := v }) = ents (mput L k v) s ∧ (mput L k v).length = L.length
 | [], _, _, _, _, h => by cases h
 | (j0, u0) :: r, k, i, j, u, h => by
  unfold fnd at h
  by_cases e : k = j0
  ·subst e
   simp only [if_true, Option.some.injEq, Prod.mk.injEq] at h
   refine ⟨0, by omega, fun s v => ?_⟩
   simp [ents, mput]
  ·rw [if_neg e] at h
   obtain ⟨m, h1, h2⟩ := fnd_some h
   refine ⟨m + 1, by omega, fun s v => ?_⟩
   obtain ⟨h3, h4, h5⟩ := h2 (s + 1) v
   unfold mput
   rw [if_neg e]
   refine ⟨by simpa [ents] using h3, by simp [ents, h4], by simp [h5]⟩
theorem fnd_none : ∀ {L : List (Int × Value)} {k : Int} {i : Nat}, fnd L k i = none → ∀ s v, ents L s ++ [⟨.int .i64 k, v, s + L.length⟩] = ents (mput L k v) s ∧ (mput L k v).length = L.length + 1
 | [], _, _, _ => fun s v => by simp [ents, mput]
 | (j0, u0) :: r, k, i, h => fun s v => by
  unfold fnd at h
  by_cases e : k = j0
  ·rw [if_pos e] at h; cases h
  ·rw [if_neg e] at h
   obtain ⟨h1, h2⟩ := fnd_none h (s + 1) v
   unfold mput
   rw [if_neg e]
   refine ⟨?_, by simp [h2]⟩
   simp only [ents, List.cons_append, List.length_cons]
   rw [show s + (r.length + 1) = s + 1 + r.length by omega, h1]
theorem lkp_mput : ∀ (L : List (Int × Value)) (k : Int) (v : Value) (j : Int), lkp (mput L k v) j = if j = k then some v else lkp L j
 | [], k, v, j => by simp [mput, lkp]
 | (j0, u0) :: r, k, v, j => by
  unfold mput
  by_cases e : k = j0
  ·rw [if_pos e]
   simp only [lkp]
   by_cases e2 : j = k
   ·simp [e2]
   ·rw [if_neg e2, if_neg e2, if_neg (by rw [← e]; exact e2)]
  ·rw [if_neg e]
   simp only [lkp, lkp_mput r k v j]
   by_cases e2 : j = j0
   ·rw [if_pos e2, if_neg (by rw [e2]; exact fun h => e h.symm), if_pos e2]
   ·rw [if_neg e2, if_neg e2]
section
variable {P : Program} {f N : Nat} {o : Oper} {F : Fr} {w : World} {k : List Item} {R : Ending → World → Prop} {ops : Array Oper} {rest : List Oper} {B : Nat} {w0 : World} {H : List (Option Blk)}
theorem Own.mapAt (h : Own B w0 w H) (kk : Nat) {b : Nat} {L : List (Int × Value)} (hk : H[kk]? = some (some (mch b L))) : w.heap[b]? = some (.map (ents L 0).toArray L.length) := h.gets kk hk
theorem ov_lookup {T kt et : TypeId} {x ix : Operand} {z : Value} {b : Nat} {i : Int} {L : List (Int × Value)} (ho : o.op = .lookup T x ix false) (hT : P.underlying T = some (.map kt et)) (hk : P.underlying kt = some (.int .i64)) (hz : (P.info? et).map (·.zero) = some (some z))
  (hx : Fr.ev F x = some (.map (some b))) (hi : Fr.ev F ix = some (.int .i64 i)) (hm : w.heap[b]? = some (.map (ents L 0).toArray L.length)) : OpV P N o F w ((lkp L i).getD z) := by
 intro a ha
 unfold execOp
 rw [ho]
 obtain ⟨it, hit, hz0⟩ := Option.map_eq_some_iff.1 hz
 have h1 := run_findKey (P := P) (w := w) hk (findNow_ents L 0 i 0)
 have h2 : ∀ e n, (Instr.checkKey e (n + 1) kt (.int .i64 i)).run P w = .ok () w := fun e n => run_checkKey hk (by simp [IsKey]) e n
 have h3 := h2 (ents L 0).toArray.isEmpty 9999
 have e := fnd_lkp L i 0
 have hl : (Instr.lookup T (.map (some b)) (.int .i64 i) false).run P w = .ok ((lkp L i).getD z) w := by
  unfold Instr.lookup
  simp only [Sem.run_bind, run_underlying hT, Result.andThen_ok, MapKept.run_getObj_map hm, Sem.run_pure, h3, h1]
  cases hf : fnd L i 0 with
  | none => rw [hf] at e; simp only [Option.map_none] at e; rw [← e]; simp [zeroValue, typeInfo, hit, hz0, Result.andThen]
  | some p => obtain ⟨q, u⟩ := p; rw [hf] at e; simp only [Option.map_some] at e; rw [← e]; simp
 simp [ha.ev hx, ha.ev hi, hl, Result.andThen]
theorem ow_mapput {T kt et : TypeId} {x ix y : Operand} {v : Value} {b : Nat} {i : Int} {L : List (Int × Value)} (hd : o.dst = none) (ho : o.op = .mapUpdate T x ix y) (hT : P.underlying T = some (.map kt et)) (hk : P.underlying kt = some (.int .i64))
  (hO : Own B w0 w H) (kk : Nat) (hkk : H[kk]? = some (some (mch b L))) (hx : Fr.ev F x = some (.map (some b))) (hi : Fr.ev F ix = some (.int .i64 i)) (hy : Fr.ev F y = some v) :
  OpW P N o F w (fun F' w' => F' = F ∧ Own B w0 w' (H.set kk (some (mch b (mput L i v)))) ∧ w'.heap.size = w.heap.size) := by
 have hm := hO.mapAt kk hkk
 have h1 := run_findKey (P := P) (w := w) hk (findNow_ents L 0 i 0)
 have h2 : ∀ e n, (Instr.checkKey e (n + 1) kt (.int .i64 i)).run P w = .ok () w := fun e n => run_checkKey hk (by simp [IsKey]) e n
 have h3 := h2 false 9999
 have hlt : b < w.heap.size := (Array.getElem?_eq_some_iff.1 hm).1
 have hrun : (Instr.mapUpdate T (.map (some b)) (.int .i64 i) v).run P w = .ok () { w with heap := w.heap.setIfInBounds b (.map (ents (mput L i v) 0).toArray (mput L i v).length) } := by
  unfold Instr.mapUpdate
  simp only [Sem.run_bind, run_underlying hT, Result.andThen_ok, MapKept.run_getObj_map hm, h3, h1]
  cases hf : fnd L i 0 with
  | none =>
   obtain ⟨g1, g2⟩ := fnd_none hf 0 v
   simp only [MapKept.run_setObj_map _ hm]
   rw [Nat.zero_add] at g1
   rw [← g1, g2]
   simp
  | some p =>
   obtain ⟨q, u⟩ := p
   obtain ⟨m, e, g⟩ := fnd_some hf
   obtain ⟨g1, g2, g3⟩ := g 0 v
   rw [Nat.zero_add] at e
   subst e
   have hkey : (((ents L 0).toArray[q]?).map (·.key)).getD (.int .i64 i) = .int .i64 i := by
    rw [List.getElem?_toArray, g1]; rfl
   have hst : (Instr.keyThatStays (.int .i64 i) (.int .i64 i)).run P w = .ok (.int .i64 i) w := run_keyThatStays (d := .int .i64) (by simp [IsKey])
   simp only [hkey, Sem.run_bind, hst, Result.andThen_ok, MapKept.run_setObj_map _ hm, g3]
   rw [← g2]
   simp
 refine (ow_u (w' := { w with heap := w.heap.setIfInBounds b (.map (ents (mput L i v) 0).toArray (mput L i v).length) }) hd (fun a ha => ?_)).mono fun F' w' ⟨e1, e2⟩ => ⟨e1, ?_, by rw [e2]; simp⟩
 ·unfold execOp
  simp only [ho, ha.ev hx, ha.ev hi, ha.ev hy, Sem.run_bind, hrun, Result.andThen_ok, Sem.run_pure]
 ·rw [e2]
  have hge := hO.ge _ (List.mem_of_getElem? hkk)
  refine hO.updBB kk hkk ⟨rfl, rfl, rfl, by simp, fun j hj => ?_⟩ (fun j _ hj => ?_) ?_ hge (.inl rfl)
  ·exact (heap_set hm).2 j (by intro e; rw [e] at hj; exact Nat.lt_irrefl _ (Nat.lt_of_lt_of_le hj hge))
  ·exact (heap_set hm).2 j hj
  ·exact (heap_set hm).1
theorem ow_makemap {T : TypeId} {d : Nat} (hd : o.dst = some d) (hN : Nat.blt d N = true) (ho : o.op = .makeMap T none) (hO : Own B w0 w H) :
  OpW P N o F w (fun F' w' => ∃ b, F' = (d, .map (some b)) :: F ∧ Own B w0 w' (some (mch b []) :: H) ∧ Below w.heap.size w w') := by
 refine (ow_w (v := .map (some w.heap.size)) (w' := w.alloc (.map #[] 0)) hd hN (fun a ha => ?_)).mono fun F' w' ⟨h1, h2⟩ => ⟨w.heap.size, h1, ?_, by rw [h2]; exact (Below.refl _ _).alloc (Nat.le_refl _) _⟩
 ·unfold execOp
  rw [ho]
  simp [Instr.makeMap, Result.andThen]
 ·rw [h2]
  have hp : Own B w0 (w.alloc (.map #[] 0)) H := hO.past ((Below.refl _ _).alloc (Nat.le_refl _) _)
  refine hp.consB ?_ hO.size (fun y hy => ?_)
  ·show (w.alloc (.map #[] 0)).heap[w.heap.size]? = some (.map #[] 0)
   exact (heap_alloc w _).1
  ·have := blkIs.lt (hO.at_ y hy)
   show w.heap.size ≠ y.b
   omega
end
end Go.Proofs.YtbcjfjldmfljgaaGreat
