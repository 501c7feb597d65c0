import Derived.Test.YtbcjfjldmfljgaaGreatHeld
import Derived.Test.YtbcjfjldmfljgaaGreatTab
import Derived.Deep.MidRow
namespace Go.Proofs.YtbcjfjldmfljgaaGreat
open Go.RowKit
def lch (b : Nat) (t : TypeId) (vs : List Value) : Blk := ⟨b, t, vs.length, fun j => vs.getD j undef, none⟩
namespace Own
variable {B : Nat} {w0 w : World} {H : List (Option Blk)}
theorem cellL (h : Own B w0 w H) (k : Nat) {b : Nat} {t : TypeId} {vs : List Value} (hk : H[k]? = some (some (lch b t vs))) {off : Nat} {v : Value} (hv : vs[off]? = some v) : w.cell? ⟨b, off, none⟩ = some v := by
 obtain ⟨hl, e⟩ := List.getElem?_eq_some_iff.1 hv
 have := h.cell k hk off hl
 simpa [lch, hv] using this
theorem rangeL (h : Own B w0 w H) (k : Nat) {b : Nat} {t : TypeId} {vs : List Value} (hk : H[k]? = some (some (lch b t vs))) : w.rangeAt b 0 vs := fun j v hv => by
 rw [Nat.zero_add]; exact h.cellL k hk hv
theorem storeL (h : Own B w0 w H) (k : Nat) {b : Nat} {t : TypeId} {vs : List Value} (hk : H[k]? = some (some (lch b t vs))) (i : Nat) (v : Value) (hi : i < vs.length) : Own B w0 (w.setCell ⟨b, i, none⟩ v) (H.set k (some (lch b t (vs.set i v)))) := by
 have h1 := h.store k hk i v
 have hkl : k < H.length := (List.getElem?_eq_some_iff.1 hk).1
 have h2 := h1.congr (x := (lch b t vs).put i v) k (by simp [hkl]) (fun j => (vs.set i v).getD j undef) (fun j hj => by
  show (if j = i then v else vs.getD j undef) = _
  simp only [List.getD_eq_getElem?_getD, List.getElem?_set]
  by_cases e : j = i
  ·subst e; simp [hi]
  ·rw [if_neg e, if_neg (fun h => e h.symm)])
 have e : ({ (lch b t vs).put i v with f := fun j => (vs.set i v).getD j undef } : Blk) = lch b t (vs.set i v) := by simp [lch, Blk.put]
 rw [e, List.set_set] at h2
 exact h2
theorem storeN (vs : List Value) : ∀ {w : World} {H : List (Option Blk)} (_ : Own B w0 w H) (k : Nat) {x : Blk} (_ : H[k]? = some (some x)) (o : Nat) (_ : x.m = none := by rfl),
  Own B w0 (w.setCells x.b o vs) (H.set k (some { x with f := fun j => if o ≤ j ∧ j < o + vs.length then vs.getD (j - o) undef else x.f j })) := by
 induction vs with
 | nil =>
  intro w H h k x hk o hm
  exact h.congr k hk _ (fun i _ => by simp; intro h1 h2; omega) hm
 | cons v vs ih =>
  intro w H h k x hk o hm
  have hkl : k < H.length := (List.getElem?_eq_some_iff.1 hk).1
  have h1 := h.store k hk o v hm
  have h2 := ih h1 k (x := x.put o v) (by simp [hkl]) (o + 1) hm
  have h3 := h2.congr k (x := { x.put o v with f := fun j => if o + 1 ≤ j ∧ j < o + 1 + vs.length then vs.getD (j - (o + 1)) undef else (x.put o v).f j }) (by simp [hkl]) (fun j => if o ≤ j ∧ j < o + (v :: vs).length then (v :: vs).getD (j - o) undef else x.f j) (fun j hj => by
   simp only [Blk.put, List.length_cons]
   by_cases e : j = o
   ·subst e; rw [if_neg (by omega), if_pos rfl, if_pos (by omega), Nat.sub_self]; rfl
   ·by_cases e2 : o + 1 ≤ j ∧ j < o + 1 + vs.length
    ·rw [if_pos e2, if_pos (by omega), show j - o = (j - (o + 1)) + 1 by omega]; simp
    ·rw [if_neg e2, if_neg e, if_neg (by omega)]) hm
  simpa [World.setCells, Blk.put] using h3
end Own
def SRow (v : Value) (E : TypeId) (s n : Nat) (G : Int → List Value) (c : Option Blk) : Prop := Row v E s n (fun j => (G ((j / s : Nat) : Int)).getD (j % s) undef) c
def SAt (B : Nat) (w : World) (ao : Option Addr) (s n : Nat) (G : Int → List Value) : Prop := RAt B w ao (n * s) (fun j => (G ((j / s : Nat) : Int)).getD (j % s) undef)
theorem SRow.nil (E : TypeId) (s : Nat) (G : Int → List Value) : SRow (.slice none 0 0) E s 0 G none := Row.nil _ _ _
theorem divmod_eq {s i fo : Nat} (h : fo < s) : (i * s + fo) / s = i ∧ (i * s + fo) % s = fo := by
 constructor
 ·rw [Nat.mul_comm, Nat.mul_add_div (by omega), Nat.div_eq_of_lt h, Nat.add_zero]
 ·rw [Nat.mul_comm, Nat.mul_add_mod, Nat.mod_eq_of_lt h]
theorem lt_mul {s n i fo : Nat} (h : fo < s) (hi : i < n) : i * s + fo < n * s := by
 have : (i + 1) * s ≤ n * s := Nat.mul_le_mul_right s hi
 rw [Nat.add_mul] at this
 omega
theorem SRow.congr {v : Value} {E : TypeId} {s n : Nat} {G G' : Int → List Value} {c : Option Blk} (h : SRow v E s n G c) (e : ∀ i : Int, 0 ≤ i → i < n → G i = G' i) : SRow v E s n G' c :=
 Row.congr h fun j hj => by
  have : j / s < n := Nat.div_lt_of_lt_mul (by rw [Nat.mul_comm]; exact hj)
  have h1 : (0 : Int) ≤ ((j / s : Nat) : Int) := Int.natCast_nonneg _
  have h2 : ((j / s : Nat) : Int) < n := Int.ofNat_lt.2 this
  rw [e _ h1 h2]
theorem SAt.open {B : Nat} {w : World} {ao : Option Addr} {s n : Nat} {G : Int → List Value} (h : SAt B w ao s n G) (hs : 0 < s) :
  ∃ b off, (0 < n → ao = some ⟨b, off, none⟩) ∧ ∀ w', Below B w w' → ∀ i : Int, 0 ≤ i → i < n → ∀ fo, fo < s → w'.cell? ⟨b, off + i.toNat * s + fo, none⟩ = some ((G i).getD fo undef) := by
 obtain ⟨b, off, h1, h2, h3⟩ := h
 refine ⟨b, off, fun h => h1 (Nat.mul_pos h hs), fun w' hb i h0 hi fo hf => ?_⟩
 have hlt := lt_mul hf (show i.toNat < n by omega)
 rw [hb.cell (p := ⟨b, off + i.toNat * s + fo, none⟩) (h2 (by omega)), Nat.add_assoc, h3 _ hlt]
 dsimp only
 rw [(divmod_eq hf).1, (divmod_eq hf).2]
 simp only [Int.toNat_of_nonneg h0]
theorem SAt.mono {B B' : Nat} {w : World} {ao : Option Addr} {s n : Nat} {G : Int → List Value} (h : SAt B w ao s n G) (hB : B ≤ B') : SAt B' w ao s n G := RAt.mono h hB
theorem SAt.below {B : Nat} {w w' : World} {ao : Option Addr} {s n : Nat} {G : Int → List Value} (h : SAt B w ao s n G) (hb : Below B w w') : SAt B w' ao s n G := RAt.below h hb
theorem SAt.nil (B : Nat) (w : World) (ao : Option Addr) (s : Nat) (G : Int → List Value) : SAt B w ao s 0 G := by unfold SAt; rw [Nat.zero_mul]; exact RAt.nil _ _ _ _
theorem SRow.open {v : Value} {E : TypeId} {s n : Nat} {G : Int → List Value} {c : Option Blk} {B : Nat} {w0 w : World} {H : List (Option Blk)} (h : SRow v E s n G c) (ho : Own B w0 w H) (k : Nat) (hk : H[k]? = some c) :
  ∃ ao cap b, v = .slice ao n cap ∧ (0 < n → ao = some ⟨b, 0, none⟩) ∧ ∀ i : Int, 0 ≤ i → i < n → ∀ fo, fo < s → w.cell? ⟨b, 0 + i.toNat * s + fo, none⟩ = some ((G i).getD fo undef) := by
 rcases h with ⟨rfl, rfl, rfl⟩ | ⟨b, cap, g, rfl, h2, h3, rfl, h5⟩
 ·exact ⟨none, 0, 0, rfl, fun h => absurd h (Nat.lt_irrefl _), fun i h0 hi => by omega⟩
 ·refine ⟨_, cap, b, rfl, fun _ => rfl, fun i h0 hi fo hf => ?_⟩
  have hlt := lt_mul hf (show i.toNat < n by omega)
  have hlt2 : i.toNat * s + fo < cap * s := Nat.lt_of_lt_of_le hlt (Nat.mul_le_mul_right s h2)
  have := ho.cell k hk (i.toNat * s + fo) hlt2
  rw [Nat.zero_add]
  dsimp only at this
  rw [this, h5 _ hlt]
  dsimp only
  rw [(divmod_eq hf).1, (divmod_eq hf).2]
  simp only [Int.toNat_of_nonneg h0]
theorem SRow.reads {B : Nat} {w0 w : World} {H : List (Option Blk)} {ao : Option Addr} {E : TypeId} {s n m cap : Nat} {G : Int → List Value} {c : Option Blk}
  (h : SRow (.slice ao m cap) E s n G c) (ho : Own B w0 w H) (k : Nat) (hk : H[k]? = some c) : SAt w.heap.size w ao s n G := by
 rcases h with ⟨h1, rfl, _⟩ | ⟨b, cap', g, h1, h2, h3, rfl, h5⟩
 ·exact SAt.nil _ _ _ _ _
 ·cases h1
  exact ((ho.reads k hk (n * s) (Nat.mul_le_mul_right s h2)).congr (fun i hi => h5 i hi))
def layoutOf (P : Program) (t : TypeId) : Option (Array Value × Array (Nat × Nat)) :=
 match P.info? t, P.underlying t with
 | some it, some (.struct fields) =>
  match it.zero, fields.toList.mapM (fun f => (P.info? f.type).map fun i => (f.offset, i.size)) with
  | some z, some places => some (z.cells, places.toArray)
  | _, _ => none
 | _, _ => none
section
variable {P : Program} {f N : Nat} {k : List Item} {F : Fr} {w : World} {R : Ending → World → Prop} {ops : Array Oper} {o : Oper} {rest : List Oper} {B : Nat} {w0 : World} {H : List (Option Blk)}
theorem ow_u {w' : World} (hd : o.dst = none) (hv : ∀ a, Holds N F a → (execOp a.eval o).run P w = .ok .skip w') : OpW P N o F w (fun F' w'' => F' = F ∧ w'' = w') := by
 intro a ha K Q hK
 unfold Oper.wp
 rw [hv a ha]
 show K (a.put o.dst undef) w'
 rw [hd]
 exact hK _ _ _ ⟨rfl, rfl⟩ ha
theorem run_newRow (E : TypeId) (cs : Array Value) (w : World) : (newRow E cs).run P w = .ok ⟨w.heap.size, 0, none⟩ (w.alloc (.cells cs E)) := by
 simp [newRow, Result.andThen]
theorem cells_one {v : Value} (h : v.oneCell' = true) : v.cells = #[v] := by cases v <;> simp_all [Value.oneCell', Value.cells]
theorem ow_alloc {E : TypeId} {z : Value} {d : Nat} (cs : List Value) (hd : o.dst = some d) (hN : Nat.blt d N = true) (ho : o.op = .alloc E) (hinfo : (P.info? E).map (·.zero) = some (some z)) (hz : z.cells = cs.toArray) (hO : Own B w0 w H) :
  OpW P N o F w (fun F' w' => ∃ b, F' = (d, .pointer (some ⟨b, 0, none⟩)) :: F ∧ Own B w0 w' (some (lch b E cs) :: H) ∧ Below w.heap.size w w') := by
 refine (ow_w (v := .pointer (some ⟨w.heap.size, 0, none⟩)) (w' := w.alloc (.cells cs.toArray E)) hd hN (fun a ha => ?_)).mono fun F' w' ⟨h1, h2⟩ => ⟨w.heap.size, h1, ?_, by rw [h2]; exact (Below.refl _ _).alloc (Nat.le_refl _) _⟩
 ·obtain ⟨i, hi, hz0⟩ := Option.map_eq_some_iff.1 hinfo
  unfold execOp
  rw [ho]
  simp [Instr.alloc, newVar, zeroValue, typeInfo, hi, hz0, hz, run_newRow, Result.andThen]
 ·rw [h2]
  exact hO.alloc cs.toArray E cs.length _ (by simp) (fun i hi => by simp [hi])
theorem ow_box {E : TypeId} {x : Operand} {v : Value} {d : Nat} (cs : List Value) (hd : o.dst = some d) (hN : Nat.blt d N = true) (ho : o.op = .box E x) (hx : Fr.ev F x = some v) (hv : v.cells = cs.toArray) (hO : Own B w0 w H) :
  OpW P N o F w (fun F' w' => ∃ b, F' = (d, .pointer (some ⟨b, 0, none⟩)) :: F ∧ Own B w0 w' (some (lch b E cs) :: H) ∧ Below w.heap.size w w') := by
 refine (ow_w (v := .pointer (some ⟨w.heap.size, 0, none⟩)) (w' := w.alloc (.cells cs.toArray E)) hd hN (fun a ha => ?_)).mono fun F' w' ⟨h1, h2⟩ => ⟨w.heap.size, h1, ?_, by rw [h2]; exact (Below.refl _ _).alloc (Nat.le_refl _) _⟩
 ·unfold execOp
  rw [ho]
  simp [Instr.box, newVar, ha.ev hx, hv, run_newRow, Result.andThen]
 ·rw [h2]
  exact hO.alloc cs.toArray E cs.length _ (by simp) (fun i hi => by simp [hi])
theorem ow_storeL {T : TypeId} {p x : Operand} {b off : Nat} {t : TypeId} {vs : List Value} {v : Value} (hd : o.dst = none) (ho : o.op = .store T p x) (hi : (P.info? T).map (·.size) = some 1)
  (hO : Own B w0 w H) (kk : Nat) (hk : H[kk]? = some (some (lch b t vs))) (hp : Fr.ev F p = some (.pointer (some ⟨b, off, none⟩))) (hb : Nat.blt off vs.length = true) (hx : Fr.ev F x = some v) (h1 : v.oneCell' = true) :
  OpW P N o F w (fun F' w' => F' = F ∧ Own B w0 w' (H.set kk (some (lch b t (vs.set off v)))) ∧ w'.heap.size = w.heap.size) := by
 have hlt := lt_of_blt hb
 refine (ow_u (w' := w.setCell ⟨b, off, none⟩ v) hd (fun a ha => ?_)).mono fun F' w' ⟨e1, e2⟩ => ⟨e1, by rw [e2]; exact hO.storeL kk hk off v hlt, by rw [e2]; simp⟩
 have hrun := run_storeAt_one (P := P) w b off T v _ (hO.cell kk hk off hlt) ((hO.get kk hk).frozen off) hi h1
 unfold execOp
 simp only [ho, ha.ev hp, ha.ev hx, Sem.run_bind, hrun, Result.andThen_ok, Sem.run_pure]
theorem size_setCells (b : Nat) : ∀ (vs : List Value) (o : Nat) (w : World), (w.setCells b o vs).heap.size = w.heap.size
 | [], _, _ => rfl
 | v :: r, o, w => by rw [World.setCells, size_setCells b r]; simp
theorem ow_storeW {T : TypeId} {p x : Operand} {b : Nat} {t : TypeId} {vs us : List Value} (hd : o.dst = none) (ho : o.op = .store T p x) (hi : (P.info? T).map (·.size) = some us.length)
  (hO : Own B w0 w H) (kk : Nat) (hk : H[kk]? = some (some (lch b t vs))) (hp : Fr.ev F p = some (.pointer (some ⟨b, 0, none⟩))) (hl : us.length = vs.length) (hx : Fr.ev F x = some (.agg us.toArray)) (h1 : us.all (·.oneCell') = true) :
  OpW P N o F w (fun F' w' => F' = F ∧ Own B w0 w' (H.set kk (some (lch b t us))) ∧ w'.heap.size = w.heap.size) := by
 refine (ow_u (w' := w.setCells b 0 us) hd (fun a ha => ?_)).mono fun F' w' ⟨e1, e2⟩ => ⟨e1, ?_, by rw [e2]; exact size_setCells _ _ _ _⟩
 ·have hrun := run_storeAt_mid (P := P) w b 0 T us.toArray (fun j hj => by
   rw [Nat.zero_add]
   have hj' : j < vs.length := by rw [← hl]; simpa using hj
   exact ⟨Option.isSome_iff_exists.2 ⟨_, hO.cell kk hk j hj'⟩, (hO.get kk hk).frozen j⟩) (by simpa using hi) (by simpa using h1)
  unfold execOp
  simp only [ho, ha.ev hp, ha.ev hx, Sem.run_bind, hrun, Result.andThen_ok, Sem.run_pure]
 ·rw [e2]
  have hkl : kk < H.length := (List.getElem?_eq_some_iff.1 hk).1
  have h2 := (hO.storeN us kk hk 0).congr kk (x := { (lch b t vs) with f := fun j => if 0 ≤ j ∧ j < 0 + us.length then us.getD (j - 0) undef else (lch b t vs).f j }) (by simp [hkl]) (fun j => us.getD j undef) (fun j hj => by
   have : j < vs.length := hj
   simp [show j < us.length by omega])
  have e : ({ (lch b t vs) with f := fun j => us.getD j undef } : Blk) = lch b t us := by simp [lch, hl]
  rw [List.set_set] at h2
  rw [← e]; exact h2
theorem foldl_put : ∀ (l : List Value) (off q : Nat) (c : Array Value), q + off + l.length ≤ c.size → ((l.zipIdx off).foldl (fun cs (p : Value × Nat) => cs.setIfInBounds (q + p.2) p.1) c).size = c.size ∧
  ∀ j, ((l.zipIdx off).foldl (fun cs (p : Value × Nat) => cs.setIfInBounds (q + p.2) p.1) c)[j]? = if q + off ≤ j ∧ j < q + off + l.length then some (l.getD (j - (q + off)) undef) else c[j]? := by
 intro l
 induction l with
 | nil => intro off q c _; refine ⟨rfl, fun j => ?_⟩; rw [if_neg (by simp)]; rfl
 | cons v l ih =>
  intro off q c hc
  simp only [List.length_cons] at hc
  obtain ⟨h1, h2⟩ := ih (off + 1) q (c.setIfInBounds (q + off) v) (by simp; omega)
  rw [List.zipIdx_cons, List.foldl_cons]
  refine ⟨by rw [h1]; simp, fun j => ?_⟩
  rw [h2 j]
  simp only [List.length_cons]
  by_cases e : j = q + off
  ·subst e
   rw [if_neg (by omega), if_pos (by omega), Nat.sub_self]
   simp [show q + off < c.size by omega]
  ·by_cases e2 : q + off ≤ j ∧ j < q + off + (l.length + 1)
   ·rw [if_pos (by omega), if_pos e2, show j - (q + off) = (j - (q + (off + 1))) + 1 by omega]; rfl
   ·rw [if_neg (by omega), if_neg e2, Array.getElem?_setIfInBounds, if_neg (by omega)]
theorem fill_seq (s : Nat) : ∀ (xs : List (List Value)) (m : Nat) (c : Array Value), (∀ x ∈ xs, x.length = s) → (m + xs.length) * s ≤ c.size →
  ∃ c', Instr.fill (fun i => some (i * s, s)) c ((List.range' m xs.length).zip (xs.map fun x => Value.agg x.toArray)) = some c' ∧ c'.size = c.size ∧
   ∀ j, c'[j]? = if m * s ≤ j ∧ j < (m + xs.length) * s then some ((xs.getD (j / s - m) []).getD (j % s) undef) else c[j]? := by
 intro xs
 induction xs with
 | nil => intro m c _ _; exact ⟨c, rfl, rfl, fun j => by rw [if_neg]; simp⟩
 | cons x xs ih =>
  intro m c hx hc
  have hxl := hx x (List.mem_cons_self ..)
  have e1 : (m + (x :: xs).length) * s = m * s + s + xs.length * s := by rw [List.length_cons, Nat.add_mul, Nat.add_mul, Nat.one_mul]; omega
  have hcs : m * s + s ≤ c.size := by rw [e1] at hc; omega
  obtain ⟨h1, h2⟩ := foldl_put x 0 (m * s) c (by omega)
  have e3 : (m + 1) * s = m * s + s := by rw [Nat.add_mul, Nat.one_mul]
  have e2 : (m + 1 + xs.length) * s = m * s + s + xs.length * s := by rw [Nat.add_mul, e3]
  obtain ⟨c', h3, h4, h5⟩ := ih (m + 1) _ (fun y hy => hx y (List.mem_cons_of_mem _ hy)) (by rw [h1, e2]; omega)
  refine ⟨c', ?_, by rw [h4, h1], fun j => ?_⟩
  ·have hfold : ((Value.agg x.toArray).cells.zipIdx.foldl (fun cs (p : Value × Nat) => cs.setIfInBounds (m * s + p.2) p.1) c) = ((x.zipIdx 0).foldl (fun cs (p : Value × Nat) => cs.setIfInBounds (m * s + p.2) p.1) c) := by
    rw [← Array.foldl_toList]
    simp [Value.cells]
   simp only [List.length_cons, List.range'_succ, List.map_cons, List.zip_cons_cons, Instr.fill]
   rw [if_neg (by simp [Value.cells, hxl, hcs])]
   rw [← h3, ← hfold]
  ·rw [h5 j, h2 j, e1, e2, e3]
   by_cases ea : m * s + s ≤ j ∧ j < m * s + s + xs.length * s
   ·rw [if_pos ea, if_pos (by omega)]
    have : m + 1 ≤ j / s := (Nat.le_div_iff_mul_le (by
     rcases Nat.eq_zero_or_pos s with e | e
     ·subst e; omega
     ·exact e)).2 (by rw [e3]; exact ea.1)
    rw [show j / s - m = (j / s - (m + 1)) + 1 by omega]; rfl
   ·rw [if_neg ea]
    by_cases eb : m * s ≤ j ∧ j < m * s + s
    ·rw [if_pos (by omega), if_pos (by omega)]
     have hs : 0 < s := by omega
     have e4 : j = m * s + (j - m * s) := by omega
     have e5 := divmod_eq (i := m) (show j - m * s < s by omega)
     rw [← e4] at e5
     rw [e5.1, e5.2, Nat.sub_self]; rfl
    ·rw [if_neg (by omega), if_neg (by omega)]
theorem ow_build {T E : TypeId} {pairs : Array (Nat × Operand)} {d m : Nat} {z : Value} {s by_ : Nat} (xs : List (List Value)) (hd : o.dst = some d) (hN : Nat.blt d N = true) (ho : o.op = .buildSlice T m pairs) (hm : xs.length = m)
  (hp : pairs.toList.map (·.1) = List.range' 0 m) (hT : P.underlying T = some (.slice E)) (hinfo : (P.info? E).map (fun i => (i.zero, i.size, i.bytes)) = some (some z, s, by_)) (hsmall : m * s ≤ 1000 ∧ 0 < m * s)
  (hO : Own B w0 w H) (hx : Fr.evs F (pairs.toList.map (·.2)) = some (xs.map fun x => .agg x.toArray)) (hs : xs.all (fun x => Nat.beq x.length s) = true) :
  OpW P N o F w (fun F' w' => ∃ b, F' = (d, .slice (some ⟨b, 0, none⟩) m m) :: F ∧ Own B w0 w' (some ⟨b, E, m * s, fun j => (xs.getD (j / s) []).getD (j % s) undef, none⟩ :: H) ∧ Below w.heap.size w w') := by
 obtain ⟨i, hi, hz0, hsz, hby⟩ := info_parts hinfo
 have hs' : ∀ x ∈ xs, x.length = s := fun x hx => Nat.eq_of_beq_eq_true (List.all_eq_true.1 hs x hx)
 have hms : m * s ≤ 1000 := hsmall.1
 obtain ⟨c', h1, h2, h3⟩ := fill_seq s xs 0 ((Array.range (m * s)).map ((if m * s = 0 then #[] else z.cells)[· % (if m * s = 0 then #[] else z.cells).size]!)) hs' (by simp [hm])
 refine (ow_w (v := .slice (some ⟨w.heap.size, 0, none⟩) m m) (w' := w.alloc (.cells c' E)) hd hN (fun a ha => ?_)).mono fun F' w' ⟨g1, g2⟩ => ⟨w.heap.size, g1, ?_, by rw [g2]; exact (Below.refl _ _).alloc (Nat.le_refl _) _⟩
 ·have hparts : (pairs.map fun (p : Nat × Operand) => (p.1, a.eval p.2)).toList = (List.range' 0 xs.length).zip (xs.map fun x => Value.agg x.toArray) := by
   have e := ha.evs hx
   rw [hm, ← hp, ← e, Array.toList_map]
   generalize pairs.toList = l
   induction l with
   | nil => rfl
   | cons p l ih => simp only [List.map_cons, List.zip_cons_cons, ih]
  unfold execOp
  rw [ho]
  have h24 : ¬ (m * s > 2 ^ 24) := by omega
  have h0 : m * s ≠ 0 := by have := hsmall.2; omega
  rw [if_neg h0] at h1
  simp [Instr.buildSlice, run_underlying hT, sizeOf, typeInfo, zeroValue, hi, hz0, hsz, h24, h0, Result.andThen]
  rw [Array.toList_map] at hparts
  rw [hparts, h1]
  simp [run_newRow]
 ·rw [g2]
  refine hO.alloc c' E (m * s) _ (by rw [h2]; simp) (fun j hj => ?_)
  rw [h3 j, if_pos ⟨by simp, by rw [hm]; simpa using hj⟩]
  simp
theorem run_appSR {T ty E : TypeId} {i : TypeInfo} {z : Value} (hT : P.underlying T = some (.slice E)) (hi : P.info? E = some i) (hz : i.zero = some z) (hsz : 0 < i.size) (hzs : z.cells.size = i.size)
  {v : Value} {n : Nat} {G : Int → List Value} {c : Option Blk} (kk : Nat) (hO : Own B w0 w H) (hk : H[kk]? = some c) (hr : SRow v E i.size n G c)
  {ao : Option Addr} {m cp B' : Nat} {G2 : Int → List Value} (hs : SAt B' w ao i.size m G2) (h1 : ∀ j : Int, 0 ≤ j → j < m → (G2 j).length = i.size ∧ (G2 j).all (·.oneCell') = true) (h63 : n + m ≤ maxLen) (hb : (n + m) * i.bytes ≤ 140737488355328) :
  ∃ v' c' w', (Builtin.append_ #[T, T] ty #[v, .slice ao m cp]).run P w = .ok v' w' ∧ Own B w0 w' (H.set kk c') ∧ w.heap.size ≤ w'.heap.size ∧ SRow v' E i.size (n + m) (joinF G n G2) c' := by
 by_cases hm : m = 0
 ·subst hm
  have hset : H.set kk c = H := by
   obtain ⟨h1, h2⟩ := List.getElem?_eq_some_iff.1 hk
   rw [← h2]; exact List.set_getElem_self h1
  refine ⟨v, c, w, ?_, by rw [hset]; exact hO, Nat.le_refl _, hr.congr fun j h0 hj => by unfold joinF; rw [if_pos hj]⟩
  have hf : (Builtin.firstCells i.size 0 (.slice ao 0 cp)).run P w = .ok #[] w := by
   cases ao with
   | none => simp [Builtin.firstCells]
   | some ad => exact run_firstCells_some (P := P) w i.size 0 ad 0 cp [] (by simp) (by simp)
  rcases hr with ⟨rfl, rfl, _⟩ | ⟨b, cap, g, rfl, hnc, _⟩
  ·simp [Builtin.append_, run_underlying hT, sizeOf, typeInfo, hi, Builtin.lenOf, hf]
  ·simp [Builtin.append_, run_underlying hT, sizeOf, typeInfo, hi, Builtin.lenOf, hf, hnc, storeCells]
 ·obtain ⟨b, off, e1, e2⟩ := hs.open hsz
  obtain rfl := e1 (by omega)
  have hdiv : ∀ j, j < m * i.size → j / i.size < m := fun j hj => Nat.div_lt_of_lt_mul (by rw [Nat.mul_comm]; exact hj)
  obtain ⟨v', c', w', hrun, h2, h3, h4⟩ := run_app (P := P) (ty := ty) hT hi hz hsz hzs kk hO hk hr ⟨b, off, none⟩ m cp ((List.range (m * i.size)).map fun (j : Nat) => (G2 ((j / i.size : Nat) : Int)).getD (j % i.size) undef) (by simp) (by
   intro j u hu
   have hj : j < m * i.size := by
    have := (List.getElem?_eq_some_iff.1 hu).1
    simpa using this
   rw [Addr.add_mid]
   have hq : ((j / i.size : Nat) : Int) < (m : Int) := Int.ofNat_lt.2 (hdiv j hj)
   have := e2 w (Below.refl _ _) ((j / i.size : Nat) : Int) (Int.natCast_nonneg _) hq (j % i.size) (Nat.mod_lt _ hsz)
   have hdm := Nat.div_add_mod j i.size
   rw [Nat.mul_comm] at hdm
   rw [Int.toNat_natCast, Nat.add_assoc, hdm] at this
   rw [this]
   simpa [hj] using hu) (by
   intro u hu
   obtain ⟨j, hj, rfl⟩ := List.mem_map.1 hu
   have hj' : j < m * i.size := by simpa using hj
   obtain ⟨hl, ha⟩ := h1 ((j / i.size : Nat) : Int) (Int.natCast_nonneg _) (Int.ofNat_lt.2 (hdiv j hj'))
   have hlt : j % i.size < (G2 ((j / i.size : Nat) : Int)).length := by rw [hl]; exact Nat.mod_lt _ hsz
   rw [List.getD_eq_getElem?_getD, List.getElem?_eq_getElem hlt]
   exact List.all_eq_true.1 ha _ (List.getElem_mem hlt)) (by omega) h63 hb
  refine ⟨v', c', w', hrun, h2, h3, ?_⟩
  refine Row.congr h4 fun j hj => ?_
  simp only [appF, joinF]
  have hjn : j / i.size < n + m := Nat.div_lt_of_lt_mul (by rw [Nat.mul_comm]; exact hj)
  by_cases e : j < n * i.size
  ·have : j / i.size < n := Nat.div_lt_of_lt_mul (by rw [Nat.mul_comm]; exact e)
   rw [if_pos e, if_pos (Int.ofNat_lt.2 this)]
  ·have hle : n ≤ j / i.size := (Nat.le_div_iff_mul_le hsz).2 (by omega)
   have : ¬ (((j / i.size : Nat) : Int) < (n : Int)) := by rw [Int.ofNat_lt]; omega
   rw [if_neg e, if_neg this]
   have e3 : (n + m) * i.size = n * i.size + m * i.size := Nat.add_mul ..
   have hlt : j - n * i.size < m * i.size := by omega
   have e4 : (j - n * i.size) / i.size = j / i.size - n := by rw [Nat.mul_comm n]; exact Nat.sub_mul_div ..
   have e5 : (j - n * i.size) % i.size = j % i.size := by
    conv => rhs; rw [show j = (j - n * i.size) + n * i.size by omega, Nat.add_mul_mod_self_right]
   have e6 : ((j / i.size : Nat) : Int) - (n : Int) = ((j / i.size - n : Nat) : Int) := by omega
   rw [e6, List.getD_eq_getElem?_getD, List.getElem?_map, List.getElem?_range hlt]
   simp only [Option.map_some, Option.getD_some, e4, e5]
theorem ow_appSR {T E : TypeId} {a1 y : Operand} {d : Nat} {z v : Value} {s by_ n m cp B' : Nat} {ao : Option Addr} {G G2 : Int → List Value} {c : Option Blk} (hd : o.dst = some d) (hN : Nat.blt d N = true)
  (ho : o.op = .call { callee := .builtin .append, args := #[a1, y], argTypes := #[T, T] })
  (hT : P.underlying T = some (.slice E)) (hinfo : (P.info? E).map (fun i => (i.zero, i.size, i.bytes)) = some (some z, s, by_)) (hsz : Nat.blt 0 s = true) (hz : z.cells.size = s)
  (hO : Own B w0 w H) (kk : Nat) (hr : SRow v E s n G c) (hk : H[kk]? = some c) (hs : Fr.ev F a1 = some v) (hy : Fr.ev F y = some (.slice ao m cp)) (hsrc : SAt B' w ao s m G2) (h1 : ∀ j : Int, 0 ≤ j → j < m → (G2 j).length = s ∧ (G2 j).all (·.oneCell') = true)
  (hb : n + m ≤ 9223372036854775807 ∧ (n + m) * by_ ≤ 140737488355328) :
  OpW P N o F w (fun F' w' => ∃ v' c', F' = (d, v') :: F ∧ Own B w0 w' (H.set kk c') ∧ SRow v' E s (n + m) (joinF G n G2) c' ∧ w.heap.size ≤ w'.heap.size) := by
 obtain ⟨i, hi, hz0, rfl, hby⟩ := info_parts hinfo
 obtain ⟨v', c', w', hrun, h2, h3, h4⟩ := run_appSR (P := P) (ty := o.type) (cp := cp) hT hi hz0 (lt_of_blt hsz) hz kk hO hk hr hsrc h1 (by unfold maxLen; omega) (by rw [hby]; exact hb.2)
 refine (ow_w (v := v') (w' := w') hd hN (fun a ha => ?_)).mono fun F' w'' ⟨e1, e2⟩ => ⟨v', c', e1, by rw [e2]; exact h2, h4, by rw [e2]; exact h3⟩
 obtain ⟨cs, he⟩ := execOp_bi a.eval .append [a1, y] #[T, T] ho
 rw [he]
 simp [builtin, ha.ev hs, ha.ev hy, hrun, Result.andThen]
theorem join1 {α : Type} (G : Int → α) (n : Nat) (x : Int → α) (i : Int) (h : i < (n : Int) + 1) (_ : 0 ≤ i) : joinF G n x i = upd G n (x 0) i := by
 unfold joinF upd
 by_cases e : i < n
 ·rw [if_pos e, if_neg (by omega)]
 ·rw [if_neg e, if_pos (by omega), show i - n = 0 by omega]
theorem ow_appR1 {T E : TypeId} {a1 y : Operand} {d b2 : Nat} {z v : Value} {s by_ n : Nat} {G : Int → List Value} {x : List Value} {c : Option Blk} (hd : o.dst = some d) (hN : Nat.blt d N = true)
  (ho : o.op = .call { callee := .builtin .append, args := #[a1, y], argTypes := #[T, T] })
  (hT : P.underlying T = some (.slice E)) (hinfo : (P.info? E).map (fun i => (i.zero, i.size, i.bytes)) = some (some z, s, by_)) (hsz : Nat.blt 0 s = true) (hz : z.cells.size = s)
  (hO : Own B w0 w (some ⟨b2, E, 1 * s, fun j => ([x].getD (j / s) []).getD (j % s) undef, none⟩ :: H)) (kk : Nat) (hr : SRow v E s n G c) (hk : H[kk]? = some c) (hs : Fr.ev F a1 = some v) (hy : Fr.ev F y = some (.slice (some ⟨b2, 0, none⟩) 1 1)) (hxl : x.length = s) (hx1 : x.all (·.oneCell') = true)
  (hb : n + 1 ≤ 9223372036854775807 ∧ (n + 1) * by_ ≤ 140737488355328) :
  OpW P N o F w (fun F' w' => ∃ v' c', F' = (d, v') :: F ∧ Own B w0 w' (H.set kk c') ∧ SRow v' E s (n + 1) (upd G n x) c' ∧ w.heap.size ≤ w'.heap.size) := by
 have hsrc : SAt w.heap.size w (some ⟨b2, 0, none⟩) s 1 (fun i => [x].getD i.toNat []) := hO.reads 0 rfl (1 * s) (Nat.le_refl _)
 refine (ow_appSR hd hN ho hT hinfo hsz hz hO (kk + 1) hr (by simpa using hk) hs hy hsrc (fun j h0 hj => ?_) hb).mono fun F' w' ⟨v', c', h1, h2, h3, h4⟩ => ⟨v', c', h1, h2.tail, h3.congr (fun i h0 hi => ?_), h4⟩
 ·obtain rfl : j = 0 := by omega
  exact ⟨hxl, hx1⟩
 ·exact join1 G n _ i (by omega) h0
theorem ov_loadW {T : TypeId} {x : Operand} {b : Nat} {t : TypeId} {vs : List Value} {dd : TypeDesc} (ho : o.op = .load T x) (hT : P.underlying T = some dd) (hd : dd.isRow = true) (hi : (P.info? T).map (·.size) = some vs.length)
  (hx : Fr.ev F x = some (.pointer (some ⟨b, 0, none⟩))) (hO : Own B w0 w H) (kk : Nat) (hk : H[kk]? = some (some (lch b t vs))) : OpV P N o F w (.agg vs.toArray) :=
 ov_loadN ho hT hd hi hx (hO.rangeL kk hk)
theorem ov_loadE {T : TypeId} {x : Operand} {b off s n : Nat} {i : Int} {dd : TypeDesc} {G : Int → List Value} (ho : o.op = .load T x) (hT : P.underlying T = some dd) (hd : dd.isRow = true) (hi : (P.info? T).map (·.size) = some s)
  (hx : Fr.ev F x = some (.pointer (some ⟨b, off + i.toNat * s, none⟩))) (hb : 0 ≤ i ∧ i < n) (hl : (G i).length = s) (hc : ∀ i : Int, 0 ≤ i → i < n → ∀ fo, fo < s → w.cell? ⟨b, off + i.toNat * s + fo, none⟩ = some ((G i).getD fo undef)) : OpV P N o F w (.agg (G i).toArray) :=
 ov_loadN ho hT hd (by rw [hi, hl]) hx (fun j v hv => by
  obtain ⟨hj, e⟩ := List.getElem?_eq_some_iff.1 hv
  rw [hc i hb.1 hb.2 j (by omega), List.getD_eq_getElem?_getD, hv]; rfl)
theorem ov_build {T : TypeId} {pairs : Array (Nat × Operand)} {zc : Array Value} {pl : Array (Nat × Nat)} {vs : List Value} {cs : Array Value} (ho : o.op = .build T pairs) (hl : layoutOf P T = some (zc, pl)) (hx : Fr.evs F (pairs.toList.map (·.2)) = some vs)
  (hf : Instr.fill (pl[·]?) zc ((pairs.toList.map (·.1)).zip vs) = some cs) : OpV P N o F w (.agg cs) := by
 intro a ha
 have e := ha.evs hx
 have hparts : (pairs.map fun (p : Nat × Operand) => (p.1, a.eval p.2)).toList = (pairs.toList.map (·.1)).zip vs := by
  rw [← e, Array.toList_map]
  generalize pairs.toList = l
  induction l with
  | nil => rfl
  | cons p l ih => simp only [List.map_cons, List.zip_cons_cons, ih]
 have hb : P.built T (pairs.map fun (p : Nat × Operand) => (p.1, a.eval p.2)).toList = some cs := by
  rw [hparts]
  unfold layoutOf at hl
  unfold Program.built
  cases hit : P.info? T with
  | none => simp [hit] at hl
  | some it =>
   cases hu : P.underlying T with
   | none => simp [hit, hu] at hl
   | some dd =>
    cases hz : it.zero with
    | none => cases dd <;> simp [hit, hu, hz] at hl
    | some z =>
     cases dd <;> try (simp [hit, hu] at hl; done)
     case struct fields =>
      cases hp : fields.toList.mapM (fun f => (P.info? f.type).map fun i => (f.offset, i.size)) with
      | none => simp [hit, hu, hz, hp] at hl
      | some places =>
       simp only [hit, hu, hz, hp, Option.some.injEq, Prod.mk.injEq] at hl
       obtain ⟨rfl, rfl⟩ := hl
       simp only [hz, hp]
       simpa using hf
 have := run_build w T _ cs hb
 unfold execOp
 rw [ho]
 simp [this, Result.andThen]
theorem ov_fieldS {T : TypeId} {x : Operand} {fi : Nat} {b off : Nat} {fs : Array Field} {q : Field} {fo : Nat} (ho : o.op = .fieldAddr T x fi) (hT : P.underlying T = some (.struct fs)) (hq : fs[fi]? = some q) (hfo : q.offset = fo)
  (hs : (P.info? q.type).map (fun i => Nat.blt 0 i.size) = some true) (hx : Fr.ev F x = some (.pointer (some ⟨b, off, none⟩))) : OpV P N o F w (.pointer (some ⟨b, off + fo, none⟩)) := by
 refine ov_field ho hT hq hfo (fun w => ?_) hx
 obtain ⟨i, hi, h⟩ := Option.map_eq_some_iff.1 hs
 have hlt := lt_of_blt h
 simp [fieldPlace, sizeOf, typeInfo, hi, show i.size ≠ 0 by omega, Addr.add_mid, hfo]
def fillP (pl : List (Nat × Nat)) : List Value → List (Nat × Value) → Option (List Value)
 | zs, [] => some zs
 | zs, (i, v) :: r => match pl[i]? with
  | some (off, 1) => bif v.oneCell' && Nat.blt off zs.length then fillP pl (zs.set off v) r else none
  | _ => none
theorem fillP_fill (pl : List (Nat × Nat)) : ∀ (ps : List (Nat × Value)) (zs us : List Value), fillP pl zs ps = some us → Instr.fill (pl[·]?) zs.toArray ps = some us.toArray
 | [], zs, us, h => by simp only [fillP, Option.some.injEq] at h; subst h; rfl
 | (i, v) :: r, zs, us, h => by
  unfold fillP at h
  split at h
  ·rename_i off hq
   cases hc : v.oneCell' && Nat.blt off zs.length with
   | false => simp [hc] at h
   | true =>
    simp only [hc, cond_true] at h
    simp only [Bool.and_eq_true] at hc
    have hlt := lt_of_blt hc.2
    have := fillP_fill pl r _ _ h
    unfold Instr.fill
    simp only [hq, cells_one hc.1]
    rw [if_neg (by simp; omega)]
    simpa using this
  ·cases h
theorem ov_buildL {T : TypeId} {pairs : Array (Nat × Operand)} {zc : List Value} {pl : List (Nat × Nat)} {vs us : List Value} (ho : o.op = .build T pairs) (hl : layoutOf P T = some (zc.toArray, pl.toArray)) (hx : Fr.evs F (pairs.toList.map (·.2)) = some vs)
  (hf : fillP pl zc ((pairs.toList.map (·.1)).zip vs) = some us) : OpV P N o F w (.agg us.toArray) :=
 ov_build ho hl hx (by simpa using fillP_fill pl _ _ _ hf)
end
theorem IRow.asV {ao : Option Addr} {cap : Nat} {E : TypeId} {n : Nat} {G : Int → Value} {c : Option Blk} (h : IRow (.slice ao n cap) E n G c) (hn : 1 ≤ n) :
  ∃ b G', ao = some ⟨b, 0, none⟩ ∧ n ≤ cap ∧ cap ≤ maxLen ∧ c = some (vch b E cap G') ∧ ∀ i : Int, 0 ≤ i → i < n → G' i = G i := by
 rcases h with ⟨h1, h0, h2⟩ | ⟨b, cap', g, h1, h2, h3, h4, h5⟩
 ·omega
 ·cases h1
  refine ⟨b, fun i => g i.toNat, rfl, h2, h3, by rw [h4, Nat.mul_one]; rfl, fun i i0 i1 => ?_⟩
  have := h5 i.toNat (by omega)
  show g i.toNat = G i
  rw [this]
  simp only [Int.toNat_of_nonneg i0]
theorem IRow.ofV {b cap : Nat} {E : TypeId} {n : Nat} {G G' : Int → Value} (hn : n ≤ cap) (hc : cap ≤ maxLen) (h : ∀ i : Int, 0 ≤ i → i < n → G' i = G i) : IRow (.slice (some ⟨b, 0, none⟩) n cap) E n G (some (vch b E cap G')) :=
 .inr ⟨b, cap, fun j => G' (j : Int), rfl, hn, hc, by rw [Nat.mul_one]; rfl, fun i hi => h i (by omega) (by omega)⟩
end Go.Proofs.YtbcjfjldmfljgaaGreat
