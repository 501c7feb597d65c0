import Derived.Test.YteagflekbbchhaaReS
import Derived.Maps.RangeRun
import Derived.Deep.Upon
set_option maxRecDepth 100000
namespace Go.Proofs.Yteagflekbbchhaa
open Go.RowKit Go.Proofs Go.MapKept
theorem ents_mem : ∀ (L : List (Int × Value)) (s : Nat) (e : MapEntry), e ∈ ents L s → ∃ i k v, L[i]? = some (k, v) ∧ e = ⟨.int .i64 k, v, s + i⟩
 | [], _, _, h => by cases h
 | (k, v) :: r, s, e, h => by
  rcases List.mem_cons.1 h with rfl | h
  ·exact ⟨0, k, v, rfl, rfl⟩
  ·obtain ⟨i, k', v', h1, h2⟩ := ents_mem r (s + 1) e h
   exact ⟨i + 1, k', v', h1, by rw [h2]; congr 1; omega⟩
theorem ents_at : ∀ (L : List (Int × Value)) (s i : Nat) (k : Int) (v : Value), L[i]? = some (k, v) → (⟨.int .i64 k, v, s + i⟩ : MapEntry) ∈ ents L s
 | (k0, v0) :: r, s, 0, k, v, h => by cases h; exact List.mem_cons_self ..
 | (k0, v0) :: r, s, i + 1, k, v, h => by
  have := ents_at r (s + 1) i k v h
  rw [show s + 1 + i = s + (i + 1) by omega] at this
  exact List.mem_cons_of_mem _ this
theorem ents_born : ∀ (L : List (Int × Value)) (s : Nat), ((ents L s).map (·.born)).Nodup ∧ ∀ b ∈ (ents L s).map (·.born), s ≤ b
 | [], _ => ⟨by simp [ents], fun b h => nomatch h⟩
 | (k, v) :: r, s => by
  obtain ⟨h1, h2⟩ := ents_born r (s + 1)
  refine ⟨List.nodup_cons.2 ⟨fun h => ?_, h1⟩, fun b hb => ?_⟩
  ·have : s + 1 ≤ s := h2 _ h; omega
  ·rcases List.mem_cons.1 hb with rfl | hb
   ·exact Nat.le_refl _
   ·have := h2 b hb; omega
theorem fnd_at : ∀ {L : List (Int × Value)} {k : Int} {s j : Nat} {v : Value}, fnd L k s = some (j, v) → ∃ i, j = s + i ∧ L[i]? = some (k, v)
 | [], _, _, _, _, h => by cases h
 | (k0, v0) :: r, k, s, j, v, h => by
  unfold fnd at h
  split at h
  ·next e => cases h; exact ⟨0, rfl, by rw [e]; rfl⟩
  ·obtain ⟨i, h1, h2⟩ := fnd_at h
   exact ⟨i + 1, by omega, h2⟩
theorem at_fnd : ∀ {L : List (Int × Value)} {k : Int} {s i : Nat} {v : Value}, (L.map (·.1)).Nodup → L[i]? = some (k, v) → fnd L k s = some (s + i, v)
 | (k0, v0) :: r, k, s, 0, v, _, h => by cases h; unfold fnd; rw [if_pos rfl]; rfl
 | (k0, v0) :: r, k, s, i + 1, v, hn, h => by
  have hn' : k0 ∉ r.map (·.1) ∧ (r.map (·.1)).Nodup := List.nodup_cons.1 hn
  have h' : r[i]? = some (k, v) := h
  unfold fnd
  rw [if_neg (fun e => hn'.1 (List.mem_map.2 ⟨(k, v), List.mem_of_getElem? h', e⟩)), at_fnd hn'.2 h']
  congr 2; omega
def Cpd (L : List (Int × Value)) (seen : Array Nat) (L2 : List (Int × Value)) : Prop :=
 (L2.map (·.1)).Nodup ∧ ∀ k, lkp L2 k = match fnd L k 0 with | some (i, v) => if seen.contains i = true then some v else none | none => none
theorem Cpd.nil (L : List (Int × Value)) : Cpd L #[] [] := ⟨by simp, fun k => by
 cases fnd L k 0 with
 | none => rfl
 | some p => obtain ⟨i, v⟩ := p; simp [lkp]⟩
theorem Cpd.step {L L2 : List (Int × Value)} {seen : Array Nat} {i : Nat} {k : Int} {v : Value} (h : Cpd L seen L2) (hn : (L.map (·.1)).Nodup) (hi : L[i]? = some (k, v)) : Cpd L (seen.push i) (mput L2 k v) := by
 refine ⟨mput_nodup k v h.1, fun j => ?_⟩
 rw [lkp_mput]
 have hk := at_fnd (s := 0) hn hi
 rw [Nat.zero_add] at hk
 by_cases e : j = k
 ·subst e
  rw [if_pos rfl, hk]
  simp
 ·rw [if_neg e, h.2 j]
  cases hj : fnd L j 0 with
  | none => rfl
  | some p =>
   obtain ⟨q, u⟩ := p
   obtain ⟨q', rfl, hq⟩ := fnd_at hj
   have hne : 0 + q' ≠ i := fun c => by
    rw [Nat.zero_add] at c
    subst c
    rw [hi] at hq
    cases hq
    exact e rfl
   have hs : (seen.push i).contains (0 + q') = seen.contains (0 + q') := by
    rw [contains_push, show (0 + q' == i) = false from beq_eq_false_iff_ne.2 hne, Bool.or_false]
   dsimp only
   rw [hs]
theorem Cpd.all {L L2 : List (Int × Value)} {seen : Array Nat} (h : Cpd L seen L2) (hs : (leftOf (ents L 0).toArray seen).size = 0) {g : Int → Ds} (hM : MapIs L g) : MapIs L2 g := by
 have key : ∀ k, lkp L2 k = lkp L k := fun k => by
  rw [h.2 k, ← fnd_lkp L k 0]
  cases hf : fnd L k 0 with
  | none => rfl
  | some p =>
   obtain ⟨q, u⟩ := p
   obtain ⟨i, rfl, hi⟩ := fnd_at hf
   have := all_seen _ seen hs _ (show (⟨.int .i64 k, u, 0 + i⟩ : MapEntry) ∈ (ents L 0).toArray.toList from ents_at L 0 i k u hi)
   dsimp only at this ⊢
   rw [if_pos this]
   rfl
 exact ⟨h.1, fun k => by rw [key]; exact hM.at_ k⟩
structure It (B : Nat) (w0 w : World) (H : List (Option Blk)) (r bm c : Nat) (seen : Array Nat) : Prop where
 own : Own B w0 w H
 ge : B ≤ r
 at_ : w.heap[r]? = some (.mapIter (some bm) c seen c)
section
variable {P : Program} {N : Nat} {o : Oper} {F : Fr} {w w0 : World} {B : Nat} {H : List (Option Blk)}
theorem ow_range {T kt et : TypeId} {x : Operand} {d bm : Nat} {L : List (Int × Value)} (hd : o.dst = some d) (hN : Nat.blt d N = true) (ho : o.op = .range T x) (hT : P.underlying T = some (.map kt et)) (hO : Own B w0 w H) (kk : Nat) (hk : H[kk]? = some (some (mch bm L))) (hx : Fr.ev F x = some (.map (some bm))) :
  OpW P N o F w (fun F' w' => ∃ r, F' = (d, .pointer (some ⟨r, 0, none⟩)) :: F ∧ It B w0 w' H r bm L.length #[]) := by
 refine (ow_w (v := .pointer (some ⟨w.heap.size, 0, none⟩)) (w' := w.alloc (.mapIter (some bm) L.length #[] L.length)) hd hN (fun a ha => ?_)).mono fun F' w' ⟨h1, h2⟩ => ⟨w.heap.size, h1, ?_⟩
 ·have hrun := run_range_map (P := P) w T kt et bm _ _ hT (hO.mapAt kk hk)
  unfold execOp
  rw [ho]
  simp [ha.ev hx, hrun, Result.andThen]
 ·rw [h2]
  exact ⟨hO.past ((Below.refl _ _).alloc (Nat.le_refl _) _), hO.size, heap_alloc_new w _⟩
theorem blkIs.ne {x : Blk} {r : Nat} {bm : Option Nat} {c c2 : Nat} {seen : Array Nat} (h : World.blkIs w x) (hr : w.heap[r]? = some (.mapIter bm c seen c2)) : x.b ≠ r := by
 intro e
 unfold World.blkIs at h
 split at h
 ·obtain ⟨cs, h1, _⟩ := h
  rw [e, hr] at h1
  cases h1
 ·rw [e, hr] at h
  cases h
theorem It.lt {r bm c : Nat} {seen : Array Nat} (h : It B w0 w H r bm c seen) : r < w.heap.size := by
 refine Classical.byContradiction fun hx => ?_
 have := h.at_
 rw [Array.getElem?_eq_none (by omega)] at this
 cases this
theorem It.keep {r bm c : Nat} {seen : Array Nat} {w' : World} {H' : List (Option Blk)} (h : It B w0 w H r bm c seen) (hO : Own B w0 w' H') (e : w'.heap[r]? = w.heap[r]?) : It B w0 w' H' r bm c seen := ⟨hO, h.ge, by rw [e]; exact h.at_⟩
theorem It.new {r bm c : Nat} {seen : Array Nat} {w' : World} {H' : List (Option Blk)} (h : It B w0 w H r bm c seen) (hO : Own B w0 w' H') (hb : Below w.heap.size w w') : It B w0 w' H' r bm c seen := h.keep hO (hb.block r h.lt)
theorem It.turn {r bm c : Nat} {seen seen' : Array Nat} {w1 : World} (h : It B w0 w H r bm c seen) (hw : w1 = w ∨ w1 = w.drew) : It B w0 (Go.ChangeMaps.setBlock w1 r (.mapIter (some bm) c seen' c)) H r bm c seen' := by
 have h1 : It B w0 w1 H r bm c seen := by
  rcases hw with rfl | rfl
  ·exact h
  ·exact ⟨h.own.drew, h.ge, h.at_⟩
 have hlt := h1.lt
 have hne : ∀ j, j ≠ r → (Go.ChangeMaps.setBlock w1 r (.mapIter (some bm) c seen' c)).heap[j]? = w1.heap[j]? := fun j hj => by
  show (w1.heap.setIfInBounds r _)[j]? = _
  rw [Array.getElem?_setIfInBounds_ne (fun e => hj e.symm)]
 refine ⟨⟨⟨h1.own.below.os, h1.own.below.tape, h1.own.below.output, by show _ ≤ (w1.heap.setIfInBounds r _).size; simpa using h1.own.below.size, fun j hj => ?_⟩, h1.own.hB, h1.own.ge, h1.own.nd, fun x hx => ?_⟩, h1.ge, ?_⟩
 ·rw [hne j (by have := h1.ge; omega)]; exact h1.own.below.block j hj
 ·exact blkIs.of_block (h1.own.at_ x hx) (hne _ (blkIs.ne (h1.own.at_ x hx) h1.at_))
 ·show (w1.heap.setIfInBounds r _)[r]? = _
  rw [Array.getElem?_setIfInBounds_self_of_lt hlt]
theorem ow_next {x : Operand} {d r bm : Nat} {L : List (Int × Value)} {seen : Array Nat} (hd : o.dst = some d) (hN : Nat.blt d N = true) (ho : o.op = .next x false) (hI : It B w0 w H r bm L.length seen) (kk : Nat) (hk : H[kk]? = some (some (mch bm L))) (hx : Fr.ev F x = some (.pointer (some ⟨r, 0, none⟩))) :
  OpW P N o F w (fun F' w' => ∃ (b : Bool) (xs : Array Value) (seen' : Array Nat), F' = (d, .tuple xs) :: F ∧ xs[0]? = some (.bool b) ∧ It B w0 w' H r bm L.length seen' ∧ (b = false → (leftOf (ents L 0).toArray seen).size = 0 ∧ seen' = seen) ∧
   (b = true → ∃ (i : Nat) (k : Int) (v : Value), L[i]? = some (k, v) ∧ seen' = seen.push i ∧ (leftOf (ents L 0).toArray seen').size < (leftOf (ents L 0).toArray seen).size)) := by
 intro a ha K Q hK
 have hm := hI.own.mapAt kk hk
 have hold : ∀ y ∈ (ents L 0).toArray.toList, y.born < L.length := fun y hy => by
  obtain ⟨i, k, v, h1, rfl⟩ := ents_mem L 0 y hy
  have := (List.getElem?_eq_some_iff.1 h1).1
  show 0 + i < _
  omega
 rcases run_next_at (P := P) w o.type r bm L.length L.length seen _ _ hI.at_ hm hold (Nat.le_refl _) with ⟨h0, hrun⟩ | ⟨e, he, w1, hw1, hrun⟩
 ·have hv : (execOp a.eval o).run P w = .ok (.value (.tuple #[.bool false])) w := by
   unfold execOp
   rw [ho]
   simp [ha.ev hx, hrun, Result.andThen]
  unfold Oper.wp
  rw [hv]
  show K (a.put o.dst _) w
  rw [hd]
  exact hK _ _ _ ⟨false, _, seen, rfl, rfl, hI, fun _ => ⟨h0, rfl⟩, fun h => Bool.noConfusion h⟩ (ha.put (lt_of_blt hN) _)
 ·have hv : (execOp a.eval o).run P w = .ok (.value (.tuple #[.bool true, e.key, e.val])) (Go.ChangeMaps.setBlock w1 r (.mapIter (some bm) L.length (seen.push e.born) L.length)) := by
   unfold execOp
   rw [ho]
   simp [ha.ev hx, hrun, Result.andThen]
  unfold Oper.wp
  rw [hv]
  show K (a.put o.dst _) _
  rw [hd]
  refine hK _ _ _ ⟨true, _, seen.push e.born, rfl, rfl, hI.turn hw1, fun h => Bool.noConfusion h, fun _ => ?_⟩ (ha.put (lt_of_blt hN) _)
  obtain ⟨i, k, v, h1, h2⟩ := ents_mem L 0 e (mem_left he).1
  refine ⟨i, k, v, h1, by rw [h2]; show seen.push (0 + i) = _; rw [Nat.zero_add], left_shrinks _ _ e he⟩
theorem ov_entry {x : Operand} {r bm i : Nat} {k : Int} {v : Value} {L : List (Int × Value)} {seen : Array Nat} (ho : o.op = .entry x) (hI : It B w0 w H r bm L.length (seen.push i)) (kk : Nat) (hk : H[kk]? = some (some (mch bm L))) (hi : L[i]? = some (k, v)) (hx : Fr.ev F x = some (.pointer (some ⟨r, 0, none⟩))) :
  OpV P N o F w (.tuple #[.int .i64 k, v]) := by
 intro a ha
 have he := ents_at L 0 i k v hi
 rw [Nat.zero_add] at he
 have hrun := run_entry_at (P := P) w r bm L.length seen _ _ (⟨.int .i64 k, v, i⟩ : MapEntry) hI.at_ (hI.own.mapAt kk hk) he (ents_born L 0).1
 unfold execOp
 rw [ho]
 simp [ha.ev hx, hrun, Result.andThen]
theorem ow_storeWK {T : TypeId} {p x : Operand} {b : Nat} {t : TypeId} {vs us : List Value} (hd : o.dst = none) (ho : o.op = .store T p x) (hi : (P.info? T).map (·.size) = some us.length)
  (hO : Own B w0 w H) (kk : Nat) (hk : H[kk]? = some (some (lch b t vs))) (hp : Fr.ev F p = some (.pointer (some ⟨b, 0, none⟩))) (hl : us.length = vs.length) (hx : Fr.ev F x = some (.agg us.toArray)) (h1 : us.all (·.oneCell') = true) :
  OpW P N o F w (fun F' w' => F' = F ∧ Own B w0 w' (H.set kk (some (lch b t us))) ∧ ∀ j, j < w.heap.size → j ≠ b → w'.heap[j]? = w.heap[j]?) := by
 refine (ow_u (w' := w.setCells b 0 us) hd (fun a ha => ?_)).mono fun F' w' ⟨e1, e2⟩ => ⟨e1, ?_, by rw [e2]; exact fun j hj hne => World.heap_setCells_other w b 0 us hj hne⟩
 ·have hrun := run_storeAt_mid (P := P) w b 0 T us.toArray (fun j hj => by
   rw [Nat.zero_add]
   have hj' : j < vs.length := by rw [← hl]; simpa using hj
   exact ⟨Option.isSome_iff_exists.2 ⟨_, hO.cell kk hk j hj'⟩, (hO.get kk hk).frozen j⟩) (by simpa using hi) (by simpa using h1)
  unfold execOp
  simp only [ho, ha.ev hp, ha.ev hx, Sem.run_bind, hrun, Result.andThen_ok, Sem.run_pure]
 ·rw [e2]
  have hkl : kk < H.length := (List.getElem?_eq_some_iff.1 hk).1
  have h2 := (hO.storeN us kk hk 0).congr kk (x := { (lch b t vs) with f := fun j => if 0 ≤ j ∧ j < 0 + us.length then us.getD (j - 0) undef else (lch b t vs).f j }) (by simp [hkl]) (fun j => us.getD j undef) (fun j hj => by
   have : j < vs.length := hj
   simp [show j < us.length by omega])
  have e : ({ (lch b t vs) with f := fun j => us.getD j undef } : Blk) = lch b t us := by simp [lch, hl]
  rw [List.set_set] at h2
  rw [← e]; exact h2
theorem ow_mapputK {T kt et : TypeId} {x ix y : Operand} {v : Value} {b : Nat} {i : Int} {L : List (Int × Value)} (hd : o.dst = none) (ho : o.op = .mapUpdate T x ix y) (hT : P.underlying T = some (.map kt et)) (hk : P.underlying kt = some (.int .i64))
  (hO : Own B w0 w H) (kk : Nat) (hkk : H[kk]? = some (some (mch b L))) (hx : Fr.ev F x = some (.map (some b))) (hi : Fr.ev F ix = some (.int .i64 i)) (hy : Fr.ev F y = some v) :
  OpW P N o F w (fun F' w' => F' = F ∧ Own B w0 w' (H.set kk (some (mch b (mput L i v)))) ∧ ∀ j, j ≠ b → w'.heap[j]? = w.heap[j]?) := by
 have hm := hO.mapAt kk hkk
 have h1 := run_findKey (P := P) (w := w) hk (findNow_ents L 0 i 0)
 have h2 : ∀ e n, (Instr.checkKey e (n + 1) kt (.int .i64 i)).run P w = .ok () w := fun e n => run_checkKey hk (by simp [IsKey]) e n
 have h3 := h2 false 9999
 have hrun : (Instr.mapUpdate T (.map (some b)) (.int .i64 i) v).run P w = .ok () { w with heap := w.heap.setIfInBounds b (.map (ents (mput L i v) 0).toArray (mput L i v).length) } := by
  unfold Instr.mapUpdate
  simp only [Sem.run_bind, run_underlying hT, Result.andThen_ok, MapKept.run_getObj_map hm, h3, h1]
  cases hf : fnd L i 0 with
  | none =>
   obtain ⟨g1, g2⟩ := fnd_none hf 0 v
   simp only [MapKept.run_setObj_map _ hm]
   rw [Nat.zero_add] at g1
   rw [← g1, g2]
   simp
  | some p =>
   obtain ⟨q, u⟩ := p
   obtain ⟨m, e, g⟩ := fnd_some hf
   obtain ⟨g1, g2, g3⟩ := g 0 v
   rw [Nat.zero_add] at e
   subst e
   have hkey : (((ents L 0).toArray[q]?).map (·.key)).getD (.int .i64 i) = .int .i64 i := by
    rw [List.getElem?_toArray, g1]; rfl
   have hst : (Instr.keyThatStays (.int .i64 i) (.int .i64 i)).run P w = .ok (.int .i64 i) w := run_keyThatStays (d := .int .i64) (by simp [IsKey])
   simp only [hkey, Sem.run_bind, hst, Result.andThen_ok, MapKept.run_setObj_map _ hm, g3]
   rw [← g2]
   simp
 refine (ow_u (w' := { w with heap := w.heap.setIfInBounds b (.map (ents (mput L i v) 0).toArray (mput L i v).length) }) hd (fun a ha => ?_)).mono fun F' w' ⟨e1, e2⟩ => ⟨e1, ?_, by rw [e2]; exact (heap_set hm).2⟩
 ·unfold execOp
  simp only [ho, ha.ev hx, ha.ev hi, ha.ev hy, Sem.run_bind, hrun, Result.andThen_ok, Sem.run_pure]
 ·rw [e2]
  have hge := hO.ge _ (List.mem_of_getElem? hkk)
  refine hO.updBB kk hkk ⟨rfl, rfl, rfl, by simp, fun j hj => ?_⟩ (fun j _ hj => ?_) ?_ hge (.inl rfl)
  ·exact (heap_set hm).2 j (by intro e; rw [e] at hj; exact Nat.lt_irrefl _ (Nat.lt_of_lt_of_le hj hge))
  ·exact (heap_set hm).2 j hj
  ·exact (heap_set hm).1
end
end Go.Proofs.Yteagflekbbchhaa
