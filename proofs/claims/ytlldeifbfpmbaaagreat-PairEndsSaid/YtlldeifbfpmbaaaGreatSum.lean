import Derived.Test.YtlldeifbfpmbaaaGreatArr
import Derived.MapKept
import Derived.Test.YtlldeifbfpmbaaaGreatTab
import Derived.Test.YtlldeifbfpmbaaaGreatOps
set_option maxRecDepth 100000
namespace Go.Proofs.YtlldeifbfpmbaaaGreat
open Go.RowKit
section
variable {P : Program} {f N : Nat} {o : Oper} {F : Fr} {w : World} {k : List Item} {R : Ending → World → Prop} {ops : Array Oper} {rest : List Oper}
theorem ov_assert {T xT : TypeId} {x : Operand} {v : Value} {dd : TypeDesc} (ho : o.op = .typeAssert x xT T false) (hT : P.underlying T = some dd) (hd : (match dd with | .interface _ => false | _ => true) = true) (hx : Fr.ev F x = some (.iface T v)) : OpV P N o F w v := by
 intro a ha
 unfold execOp
 rw [ho]
 have h1 : (Instr.typeAssert (.iface T v) xT T false).run P w = .ok v w := by
  unfold Instr.typeAssert
  rw [Sem.run_bind, run_underlying hT w]
  cases dd <;> simp_all
 simp [ha.ev hx, h1, Result.andThen]
theorem meth_ptr {t : TypeId} {v : Value} {name : String} {g : FuncId} {e : TypeId} (hb : ((P.info? t).bind fun i => i.methods.find? (·.name == name)).map (fun m => (m.path, m.func)) = some (#[], some (g, true))) (hu : P.underlying t = some (.pointer e)) :
    (method (P.types.size + Made.depth) t v name).run P w = .ok (g, v) w := by
  obtain ⟨m, hb, hm'⟩ := Option.map_eq_some_iff.1 hb
  obtain ⟨i, hi, hm⟩ := Option.bind_eq_some_iff.1 hb
  have hp := congrArg Prod.fst hm'
  have hf := congrArg Prod.snd hm'
  simp only at hp hf
  obtain ⟨q, hq⟩ : ∃ q, P.types.size + Made.depth = q + 1 := ⟨P.types.size + Made.depth - 1, by have : 1 ≤ Made.depth := by decide
                                                                                                omega⟩
  rw [hq]
  unfold method
  simp [typeInfo, hi, hm, hp, follow, hf, receiverAt, run_underlying hu w, Place.get, Result.andThen]
theorem rl_invoke {fo : Operand} {xs : Array Operand} {ats : Array TypeId} {name : String} {g : FuncId} {t : TypeId} {rv rcv : Value} {vs : List Value} {d : Nat} {Post : Ending → World → Prop} (hcl : Callable P g) (hg : o.guard = none) (hd : o.dst = some d) (hN : Nat.blt d N = true)
  (ho : o.op = .call { callee := .invoke fo name, args := xs, argTypes := ats }) (hf : Fr.ev F fo = some (.iface t rv)) (hm : (method (P.types.size + Made.depth) t rv name).run P w = .ok (g, rcv) w) (hx : Fr.evs F xs.toList = some vs)
  (hC : Calls P g (#[rcv] ++ vs.toArray) w Post) (h : ∀ e w', Post e w' → ∃ v, e = .returned v ∧ RL P f N ops rest k ((d, v) :: F) w' R) : RL P f N ops (o :: rest) k F w R := by
 intro a ha
 refine wpList_plain hg fun K hK => ?_
 have hargs : xs.map a.eval = vs.toArray := by
  apply Array.ext'
  simpa using ha.evs hx
 have hex : (#[Value.iface t rv] ++ vs.toArray).extract 1 (#[Value.iface t rv] ++ vs.toArray).size = vs.toArray := by
  apply Array.ext'
  simp
 have hrun : (execOp a.eval o).run P w = .ok (.enter g (#[rcv] ++ vs.toArray)) w := by
  unfold execOp
  simp only [ho, resolve, Sem.run_bind, ha.ev hf, hargs]
  simp only [Sem.run_pure, Result.andThen_ok]
  unfold invoke
  simp only
  have h0 : (#[Value.iface t rv] ++ vs.toArray)[0]? = some (Value.iface t rv) := by simp
  rw [h0]
  simp only [hex]
  unfold callMethod
  simp [hm, run_callFunc hcl, Result.andThen]
 unfold Oper.wp
 rw [hrun]
 refine hC.mono fun e w' hp => ?_
 obtain ⟨v, rfl, hv⟩ := h e w' hp
 show K (a.put o.dst v) w'
 rw [hd]
 exact hK _ _ (hv _ (ha.put (lt_of_blt hN) v))
theorem rl_ginvoke {j gs : Nat} {bb : Bool} {fo : Operand} {xs : Array Operand} {ats : Array TypeId} {name : String} {g : FuncId} {t : TypeId} {rv rcv : Value} {vs : List Value} {d : Nat} {Post : Ending → World → Prop} (hcl : Callable P g)
  (hg : o.guard = some (j, bb)) (hj : (ops[j]?).bind (·.dst) = some gs) (hb : Fr.get F gs = some (.bool bb)) (hd : o.dst = some d) (hN : Nat.blt d N = true)
  (ho : o.op = .call { callee := .invoke fo name, args := xs, argTypes := ats }) (hf : Fr.ev F fo = some (.iface t rv)) (hm : (method (P.types.size + Made.depth) t rv name).run P w = .ok (g, rcv) w) (hx : Fr.evs F xs.toList = some vs)
  (hC : Calls P g (#[rcv] ++ vs.toArray) w Post) (h : ∀ e w', Post e w' → ∃ v, e = .returned v ∧ RL P f N ops rest k ((d, v) :: F) w' R) : RL P f N ops (o :: rest) k F w R := by
 intro a ha
 refine wpList_step fun K hK => ?_
 have hw : Region.wanted o (yielded ops a.tmps) = true := by simp [Region.wanted, hg, yielded_of ha hj hb]
 rw [if_pos hw]
 have hargs : xs.map a.eval = vs.toArray := by
  apply Array.ext'
  simpa using ha.evs hx
 have hex : (#[Value.iface t rv] ++ vs.toArray).extract 1 (#[Value.iface t rv] ++ vs.toArray).size = vs.toArray := by
  apply Array.ext'
  simp
 have hrun : (execOp a.eval o).run P w = .ok (.enter g (#[rcv] ++ vs.toArray)) w := by
  unfold execOp
  simp only [ho, resolve, Sem.run_bind, ha.ev hf, hargs]
  simp only [Sem.run_pure, Result.andThen_ok]
  unfold invoke
  simp only
  have h0 : (#[Value.iface t rv] ++ vs.toArray)[0]? = some (Value.iface t rv) := by simp
  rw [h0]
  simp only [hex]
  unfold callMethod
  simp [hm, run_callFunc hcl, Result.andThen]
 unfold Oper.wp
 rw [hrun]
 refine hC.mono fun e w' hp => ?_
 obtain ⟨v, rfl, hv⟩ := h e w' hp
 show K (a.put o.dst v) w'
 rw [hd]
 exact hK _ _ (hv _ (ha.put (lt_of_blt hN) v))
end
end Go.Proofs.YtlldeifbfpmbaaaGreat
set_option maxRecDepth 100000
namespace Go.Proofs.YtlldeifbfpmbaaaGreat
open Go.RowKit Go.Proofs Go.MapKept
def ents : List (Int × Value) → Nat → List MapEntry
 | [], _ => []
 | (k, v) :: r, s => ⟨.int .i64 k, v, s⟩ :: ents r (s + 1)
def fnd : List (Int × Value) → Int → Nat → Option (Nat × Value)
 | [], _, _ => none
 | (j, v) :: r, k, i => if k = j then some (i, v) else fnd r k (i + 1)
def lkp : List (Int × Value) → Int → Option Value
 | [], _ => none
 | (j, v) :: r, k => if k = j then some v else lkp r k
def mput : List (Int × Value) → Int → Value → List (Int × Value)
 | [], k, v => [(k, v)]
 | (j, u) :: r, k, v => if k = j then (k, v) :: r else (j, u) :: mput r k v
def mch (b : Nat) (L : List (Int × Value)) : Blk := ⟨b, 0, 0, fun _ => undef, some (.map (ents L 0).toArray L.length)⟩
theorem fnd_lkp : ∀ (L : List (Int × Value)) (k : Int) (i : Nat), (fnd L k i).map (·.2) = lkp L k
 | [], _, _ => rfl
 | (j, v) :: r, k, i => by unfold fnd lkp; split; rfl; exact fnd_lkp r k (i + 1)
theorem findNow_ents : ∀ (L : List (Int × Value)) (s : Nat) (k : Int) (i : Nat), Instr.findNow (.int .i64) (.int .i64 k) (ents L s) i = some (fnd L k i)
 | [], _, _, _ => rfl
 | (j, v) :: r, s, k, i => by
  unfold ents Instr.findNow fnd
  simp only [Instr.sameNow, if_true]
  by_cases h : k = j
  ·subst h; simp
  ·have : (k == j) = false := by simpa using h
   simp only [this, if_neg h]
   exact findNow_ents r (s + 1) k (i + 1)
theorem fnd_some : ∀ {L : List (Int × Value)} {k : Int} {i j : Nat} {u : Value}, fnd L k i = some (j, u) → ∃ m, j = i + m ∧ ∀ s v, (ents L s)[m]?.map (·.key) = some (.int .i64 k) ∧ (ents L s).modify m (fun e => { e with key := .int .i64 k, val := v }) = ents (mput L k v) s ∧ (mput L k v).length = L.length
 | [], _, _, _, _, h => by cases h
 | (j0, u0) :: r, k, i, j, u, h => by
  unfold fnd at h
  by_cases e : k = j0
  ·subst e
   simp only [if_true, Option.some.injEq, Prod.mk.injEq] at h
   refine ⟨0, by omega, fun s v => ?_⟩
   simp [ents, mput]
  ·rw [if_neg e] at h
   obtain ⟨m, h1, h2⟩ := fnd_some h
   refine ⟨m + 1, by omega, fun s v => ?_⟩
   obtain ⟨h3, h4, h5⟩ := h2 (s + 1) v
   unfold mput
   rw [if_neg e]
   refine ⟨by simpa [ents] using h3, by simp [ents, h4], by simp [h5]⟩
theorem fnd_none : ∀ {L : List (Int × Value)} {k : Int} {i : Nat}, fnd L k i = none → ∀ s v, ents L s ++ [⟨.int .i64 k, v, s + L.length⟩] = ents (mput L k v) s ∧ (mput L k v).length = L.length + 1
 | [], _, _, _ => fun s v => by simp [ents, mput]
 | (j0, u0) :: r, k, i, h => fun s v => by
  unfold fnd at h
  by_cases e : k = j0
  ·rw [if_pos e] at h; cases h
  ·rw [if_neg e] at h
   obtain ⟨h1, h2⟩ := fnd_none h (s + 1) v
   unfold mput
   rw [if_neg e]
   refine ⟨?_, by simp [h2]⟩
   simp only [ents, List.cons_append, List.length_cons]
   rw [show s + (r.length + 1) = s + 1 + r.length by omega, h1]
theorem lkp_mput : ∀ (L : List (Int × Value)) (k : Int) (v : Value) (j : Int), lkp (mput L k v) j = if j = k then some v else lkp L j
 | [], k, v, j => by simp [mput, lkp]
 | (j0, u0) :: r, k, v, j => by
  unfold mput
  by_cases e : k = j0
  ·rw [if_pos e]
   simp only [lkp]
   by_cases e2 : j = k
   ·simp [e2]
   ·rw [if_neg e2, if_neg e2, if_neg (by rw [← e]; exact e2)]
  ·rw [if_neg e]
   simp only [lkp, lkp_mput r k v j]
   by_cases e2 : j = j0
   ·rw [if_pos e2, if_neg (by rw [e2]; exact fun h => e h.symm), if_pos e2]
   ·rw [if_neg e2, if_neg e2]
section
variable {P : Program} {f N : Nat} {o : Oper} {F : Fr} {w : World} {k : List Item} {R : Ending → World → Prop} {ops : Array Oper} {rest : List Oper} {B : Nat} {w0 : World} {H : List (Option Blk)}
theorem Own.mapAt (h : Own B w0 w H) (kk : Nat) {b : Nat} {L : List (Int × Value)} (hk : H[kk]? = some (some (mch b L))) : w.heap[b]? = some (.map (ents L 0).toArray L.length) := h.gets kk hk
theorem ov_lookup {T kt et : TypeId} {x ix : Operand} {z : Value} {b : Nat} {i : Int} {L : List (Int × Value)} (ho : o.op = .lookup T x ix false) (hT : P.underlying T = some (.map kt et)) (hk : P.underlying kt = some (.int .i64)) (hz : (P.info? et).map (·.zero) = some (some z))
  (hx : Fr.ev F x = some (.map (some b))) (hi : Fr.ev F ix = some (.int .i64 i)) (hm : w.heap[b]? = some (.map (ents L 0).toArray L.length)) : OpV P N o F w ((lkp L i).getD z) := by
 intro a ha
 unfold execOp
 rw [ho]
 obtain ⟨it, hit, hz0⟩ := Option.map_eq_some_iff.1 hz
 have h1 := run_findKey (P := P) (w := w) hk (findNow_ents L 0 i 0)
 have h2 : ∀ e n, (Instr.checkKey e (n + 1) kt (.int .i64 i)).run P w = .ok () w := fun e n => run_checkKey hk (by simp [IsKey]) e n
 have h3 := h2 (ents L 0).toArray.isEmpty 9999
 have e := fnd_lkp L i 0
 have hl : (Instr.lookup T (.map (some b)) (.int .i64 i) false).run P w = .ok ((lkp L i).getD z) w := by
  unfold Instr.lookup
  simp only [Sem.run_bind, run_underlying hT, Result.andThen_ok, MapKept.run_getObj_map hm, Sem.run_pure, h3, h1]
  cases hf : fnd L i 0 with
  | none => rw [hf] at e; simp only [Option.map_none] at e; rw [← e]; simp [zeroValue, typeInfo, hit, hz0, Result.andThen]
  | some p => obtain ⟨q, u⟩ := p; rw [hf] at e; simp only [Option.map_some] at e; rw [← e]; simp
 simp [ha.ev hx, ha.ev hi, hl, Result.andThen]
theorem ow_mapput {T kt et : TypeId} {x ix y : Operand} {v : Value} {b : Nat} {i : Int} {L : List (Int × Value)} (hd : o.dst = none) (ho : o.op = .mapUpdate T x ix y) (hT : P.underlying T = some (.map kt et)) (hk : P.underlying kt = some (.int .i64))
  (hO : Own B w0 w H) (kk : Nat) (hkk : H[kk]? = some (some (mch b L))) (hx : Fr.ev F x = some (.map (some b))) (hi : Fr.ev F ix = some (.int .i64 i)) (hy : Fr.ev F y = some v) :
  OpW P N o F w (fun F' w' => F' = F ∧ Own B w0 w' (H.set kk (some (mch b (mput L i v)))) ∧ w'.heap.size = w.heap.size) := by
 have hm := hO.mapAt kk hkk
 have h1 := run_findKey (P := P) (w := w) hk (findNow_ents L 0 i 0)
 have h2 : ∀ e n, (Instr.checkKey e (n + 1) kt (.int .i64 i)).run P w = .ok () w := fun e n => run_checkKey hk (by simp [IsKey]) e n
 have h3 := h2 false 9999
 have hlt : b < w.heap.size := (Array.getElem?_eq_some_iff.1 hm).1
 have hrun : (Instr.mapUpdate T (.map (some b)) (.int .i64 i) v).run P w = .ok () { w with heap := w.heap.setIfInBounds b (.map (ents (mput L i v) 0).toArray (mput L i v).length) } := by
  unfold Instr.mapUpdate
  simp only [Sem.run_bind, run_underlying hT, Result.andThen_ok, MapKept.run_getObj_map hm, h3, h1]
  cases hf : fnd L i 0 with
  | none =>
   obtain ⟨g1, g2⟩ := fnd_none hf 0 v
   simp only [MapKept.run_setObj_map _ hm]
   rw [Nat.zero_add] at g1
   rw [← g1, g2]
   simp
  | some p =>
   obtain ⟨q, u⟩ := p
   obtain ⟨m, e, g⟩ := fnd_some hf
   obtain ⟨g1, g2, g3⟩ := g 0 v
   rw [Nat.zero_add] at e
   subst e
   have hkey : (((ents L 0).toArray[q]?).map (·.key)).getD (.int .i64 i) = .int .i64 i := by
    rw [List.getElem?_toArray, g1]; rfl
   have hst : (Instr.keyThatStays (.int .i64 i) (.int .i64 i)).run P w = .ok (.int .i64 i) w := run_keyThatStays (d := .int .i64) (by simp [IsKey])
   simp only [hkey, Sem.run_bind, hst, Result.andThen_ok, MapKept.run_setObj_map _ hm, g3]
   rw [← g2]
   simp
 refine (ow_u (w' := { w with heap := w.heap.setIfInBounds b (.map (ents (mput L i v) 0).toArray (mput L i v).length) }) hd (fun a ha => ?_)).mono fun F' w' ⟨e1, e2⟩ => ⟨e1, ?_, by rw [e2]; simp⟩
 ·unfold execOp
  simp only [ho, ha.ev hx, ha.ev hi, ha.ev hy, Sem.run_bind, hrun, Result.andThen_ok, Sem.run_pure]
 ·rw [e2]
  have hge := hO.ge _ (List.mem_of_getElem? hkk)
  refine hO.updBB kk hkk ⟨rfl, rfl, rfl, by simp, fun j hj => ?_⟩ (fun j _ hj => ?_) ?_ hge (.inl rfl)
  ·exact (heap_set hm).2 j (by intro e; rw [e] at hj; exact Nat.lt_irrefl _ (Nat.lt_of_lt_of_le hj hge))
  ·exact (heap_set hm).2 j hj
  ·exact (heap_set hm).1
theorem ow_makemap {T : TypeId} {d : Nat} (hd : o.dst = some d) (hN : Nat.blt d N = true) (ho : o.op = .makeMap T none) (hO : Own B w0 w H) :
  OpW P N o F w (fun F' w' => ∃ b, F' = (d, .map (some b)) :: F ∧ Own B w0 w' (some (mch b []) :: H) ∧ Below w.heap.size w w') := by
 refine (ow_w (v := .map (some w.heap.size)) (w' := w.alloc (.map #[] 0)) hd hN (fun a ha => ?_)).mono fun F' w' ⟨h1, h2⟩ => ⟨w.heap.size, h1, ?_, by rw [h2]; exact (Below.refl _ _).alloc (Nat.le_refl _) _⟩
 ·unfold execOp
  rw [ho]
  simp [Instr.makeMap, Result.andThen]
 ·rw [h2]
  have hp : Own B w0 (w.alloc (.map #[] 0)) H := hO.past ((Below.refl _ _).alloc (Nat.le_refl _) _)
  refine hp.consB ?_ hO.size (fun y hy => ?_)
  ·show (w.alloc (.map #[] 0)).heap[w.heap.size]? = some (.map #[] 0)
   exact (heap_alloc w _).1
  ·have := blkIs.lt (hO.at_ y hy)
   show w.heap.size ≠ y.b
   omega
end
end Go.Proofs.YtlldeifbfpmbaaaGreat
namespace Go.Proofs.YtlldeifbfpmbaaaGreat
open Go.RowKit
def och (b : Nat) (o : Obj) : Blk := ⟨b, 0, 0, fun _ => undef, some o⟩
section
variable {B : Nat} {w0 w : World} {H : List (Option Blk)}
theorem Own.atO (h : Own B w0 w H) (k : Nat) {b : Nat} {o : Obj} (hk : H[k]? = some (some (och b o))) : w.heap[b]? = some o := h.gets k hk
theorem Own.allocO (h : Own B w0 w H) (o : Obj) : Own B w0 (w.alloc o) (some (och w.heap.size o) :: H) := by
 have hp := h.past ((Below.refl _ w).alloc (Nat.le_refl _) o)
 refine hp.consB (x := och w.heap.size o) ?_ h.size fun y hy => ?_
 ·show (w.alloc o).heap[w.heap.size]? = some o
  exact World.alloc_heap_new w o
 ·have := blkIs.lt (h.at_ y hy)
  show w.heap.size ≠ y.b
  omega
theorem Own.putO (h : Own B w0 w H) (k : Nat) {b : Nat} {o : Obj} (hk : H[k]? = some (some (och b o))) (o' : Obj) : Own B w0 (w.putObj b o') (H.set k (some (och b o'))) := by
 have hge : B ≤ b := h.ge _ (List.mem_of_getElem? hk)
 have hlt : b < w.heap.size := blkIs.lt (h.gets k hk)
 have hoth : ∀ j, j < w.heap.size → j ≠ b → (w.putObj b o').heap[j]? = w.heap[j]? := fun j _ hj => World.putObj_heap_other hj
 refine h.updBB k hk ⟨rfl, rfl, rfl, ?_, fun j hj => World.putObj_heap_other (by omega)⟩ hoth ?_ hge (.inl rfl)
 ·show w.heap.size ≤ (w.putObj b o').heap.size
  simp [World.putObj]
 ·show (w.putObj b o').heap[b]? = some o'
  exact World.putObj_heap_same hlt
end
section
variable {P : Program} {f N : Nat} {k : List Item} {F : Fr} {w : World} {R : Ending → World → Prop} {ops : Array Oper} {o : Oper} {rest : List Oper}
theorem run_ci {n : Nat} {c : Code} (h : CI none n P N (QK P f k R) c F w) : Run P f N (.code c :: k) F w R := fun a ha => runA_of_wp ((wpIn_wide (n := n)).1 (h a ha))
theorem qk_run (h : Run P f N k F w R) : ∀ a, Holds N F a → QK P f k R .normal a w := h
def RM (P : Program) (f N : Nat) (ds : List Deferred) (k : List Item) (F : Fr) (w : World) (R : Ending → World → Prop) : Prop := ∀ a, Holds N F { a with defers := [] } → a.defers = ds → RunA P f k a w R
def RML (P : Program) (f N : Nat) (ds : List Deferred) (ops : Array Oper) (l : List Oper) (k : List Item) (F : Fr) (w : World) (R : Ending → World → Prop) : Prop := ∀ a, Holds N F { a with defers := [] } → a.defers = ds → wpList P ops (QK P f k R) l a w
variable {ds : List Deferred}
theorem rm_region {id : Nat} {l : List Oper} (h : RML P f N ds l.toArray l k F w R) : RM P f N ds (.code (.region id l.toArray false) :: k) F w R := fun a ha hd => runA_of_wp (wp_region_lit (h a ha hd))
theorem rml_nil (h : RM P f N ds k F w R) : RML P f N ds ops [] k F w R := h
theorem rml_v {d : Nat} {v : Value} (hg : o.guard = none) (hd : o.dst = some d) (hN : Nat.blt d N = true) (hv : OpV P N o F w v) (h : RML P f N ds ops rest k ((d, v) :: F) w R) : RML P f N ds ops (o :: rest) k F w R := by
 intro a ha hds
 refine wpList_plain hg fun K hK => ?_
 have h1 := hv _ ha
 change (execOp a.eval o).run P w = _ at h1
 unfold Oper.wp
 rw [h1]
 show K (a.put o.dst v) w
 rw [hd]
 refine hK _ _ (h _ ?_ ?_)
 ·exact ha.put (lt_of_blt hN) v
 ·exact hds
theorem rm_seq {x y : Code} (h : RM P f N ds (.code x :: .code y :: k) F w R) : RM P f N ds (.code (.seq x y) :: k) F w R := fun a ha hd => RunA.of_step (fun _ => .one step_seq) (h a ha hd)
theorem rm_ret {fn : Func} {v : Value} {D : Nat} (hf : P.funcs[f]? = some fn) (hD : w.heap[D]? = some (.deferred (some []))) (hres : ∀ a, Holds N F a → (results fn a.tmps).run P (w.putObj D (.deferred none)) = .ok v (w.putObj D (.deferred none))) (hR : R (.returned v) (w.putObj D (.deferred none))) :
  RM P f N [{ target := .collected D, args := #[] }] (.code .ret :: k) F w R := by
 intro a ha hd cs
 have hM : LeavesInM (FW none) 0 P fn a.tmps R a.defers .returning w := by
  rw [hd]
  refine ⟨by simp, .inl ⟨D, _, rfl, run_takeDeferred hD, ?_⟩⟩
  exact ⟨v, hres { a with defers := [] } ha, hR⟩
 obtain ⟨e', w'', fr', h1, h2, h3, h4⟩ := leaves_stepsInM (F := FW none) (n := 0) a.defers .returning w { (base f).at a (.code .ret :: k) with mode := .returning } cs rfl rfl rfl hf rfl trivial (room_wide _) hM
 exact ⟨e', w'', fr', h1, Comes.of_steps (.one step_ret) (comesIn_wide.1 h2), h3, h4⟩
def lrec (f : Nat) (tmps : Array Value) (ps : Array Tmp) (assign body : Code) (D : Nat) : Loop := { state := .ready, pending := none, fn := f, tmps := tmps, params := ps, assign := assign, body := body, defers := D }
theorem inBlock_exit {id : Nat} {Q : Exit → Act → World → Prop} {a : Act} (h : Q .normal a w) : Exit.inBlock id Q (.exit id) a w := by
 show (if id = id then _ else _)
 rw [if_pos rfl]
 exact h
theorem run_rangeFunc {id gf : Nat} {g : Operand} {ps : Array Tmp} {assign body : Code} {cap : Array Value} (hcl : Callable P gf) (hg : Fr.ev F g = some (.func (.func gf) #[] cap))
  (h : ∀ fn a, Holds N F a → Calls P gf (#[.func (.yield (w.heap.size + 1)) #[] #[]] ++ cap) ((w.alloc (.deferred (some []))).alloc (.loop (lrec fn a.tmps ps assign body w.heap.size))) fun e w3 =>
   ∃ (v : Value) (r : Loop), e = .returned v ∧ w3.heap[w.heap.size + 1]? = some (.loop r) ∧ r.state ≠ .busy ∧ (r.pending = none ∨ r.pending = some (.exit id)) ∧
    RM P f N [{ target := .collected w.heap.size, args := #[] }] k F (w3.putObj (w.heap.size + 1) (.loop { r with state := .exhausted })) R) :
  Run P f N (.code (.block id (.rangeFunc g ps assign body)) :: k) F w R := by
 intro a ha cs
 have hw : (Code.block id (.rangeFunc g ps assign body)).wpIn (FW none) 0 P (fun e a' w' => e = .normal ∧ RunA P f k a' w' R) a w := by
  refine wpIn_block (wpIn_rangeFunc fun fn _ => ?_)
  have hres : (resolve a.eval (rangeCall g (w.heap.size + 1)) 0).run P ((w.alloc (.deferred (some []))).alloc (.loop (lrec fn a.tmps ps assign body w.heap.size))) = .ok { target := .fn (.func gf) cap, args := #[.func (.yield (w.heap.size + 1)) #[] #[]] } ((w.alloc (.deferred (some []))).alloc (.loop (lrec fn a.tmps ps assign body w.heap.size))) := by
   simp only [rangeCall, resolve, Sem.run_bind, Deferred.ofValue, ha.ev hg]
   simp [Result.andThen, Act.eval]
  have hinv : (invoke (Target.fn (.func gf) cap) #[.func (.yield (w.heap.size + 1)) #[] #[]]).run P ((w.alloc (.deferred (some []))).alloc (.loop (lrec fn a.tmps ps assign body w.heap.size))) = .ok (.enter gf (#[.func (.yield (w.heap.size + 1)) #[] #[]] ++ cap)) ((w.alloc (.deferred (some []))).alloc (.loop (lrec fn a.tmps ps assign body w.heap.size))) := by
   simp [invoke, run_callFunc hcl]
  refine ⟨w.heap.size + 1, [{ target := .collected w.heap.size, args := #[] }], (w.alloc (.deferred (some []))).alloc (.loop (lrec fn a.tmps ps assign body w.heap.size)), { target := .fn (.func gf) cap, args := #[.func (.yield (w.heap.size + 1)) #[] #[]] }, (w.alloc (.deferred (some []))).alloc (.loop (lrec fn a.tmps ps assign body w.heap.size)), gf, #[.func (.yield (w.heap.size + 1)) #[] #[]] ++ cap, (w.alloc (.deferred (some []))).alloc (.loop (lrec fn a.tmps ps assign body w.heap.size)), run_enterLoop_outer fn a.tmps ps assign body, hres, fun _ _ => trivial, hinv, fun hd => absurd hd (by simp [FW, Fence.wide]), ?_⟩
  refine callsFW ((h fn a ha).mono fun e w3 he => ?_)
  obtain ⟨v, r, rfl, h1, h2, h3, h4⟩ := he
  refine ⟨r.pending, _, run_endLoop h1 h2, ?_⟩
  have hds : ({ a with defers := [{ target := .collected w.heap.size, args := #[] }] ++ a.defers } : Act).defers = [{ target := .collected w.heap.size, args := #[] }] := by simp [ha.defs]
  have hcont := h4 { a with defers := [{ target := .collected w.heap.size, args := #[] }] ++ a.defers } ⟨ha.size, rfl, ha.at_⟩ hds
  rcases h3 with h3 | h3
  ·rw [h3] at hcont ⊢
   exact ⟨rfl, hcont⟩
  ·rw [h3] at hcont ⊢
   exact wpIn_exit (inBlock_exit ⟨rfl, hcont⟩)
 obtain ⟨e, a', w', hq, harr⟩ := (wpIn_wide (n := 0)).1 hw (base f) k cs
 obtain ⟨rfl, hq⟩ := hq
 obtain ⟨e, w'', fr, h1, h2, h3, h4⟩ := hq cs
 exact ⟨e, w'', fr, h1, Comes.of_steps harr h2, h3, h4⟩
theorem yieldAt_round {l p n : Nat} {r : Loop} {v : Value} (hl : w.heap[l]? = some (.loop r)) (hps : r.params = #[p]) (hsz : r.tmps.size = N) (hF : ∀ i u, Fr.get F i = some u → r.tmps[i]? = some u) (hp : Nat.blt p N = true)
  (h : CI (some l) n P N (Exit.then (fun a₁ w₁ => ∃ w₂, (Instr.beginRound l).run P w₁ = .ok () w₂ ∧ r.body.wpIn (FW (some l)) n P (roundPost P l R) a₁ w₂) (fun _ _ _ => False)) r.assign ((p, v) :: F) w) : YieldAt (FW none) n P l #[v] w R := by
 have hr := run_yield (P := P) (args := #[v]) hl (by rw [hps]; rfl)
 refine ⟨_, _, _, _, hr, roundIn_of_wpIn trivial ?_⟩
 have h0 : Holds N F { tmps := r.tmps, defers := [] } := ⟨hsz, rfl, hF⟩
 have h1 := h _ (h0.put (lt_of_blt hp) v)
 rw [hps]
 simp [Act.put] at h1 ⊢
 exact h1
theorem round_body {l n : Nat} {c : Code} (h : ∀ a, Holds N F a → ∃ w₂, (Instr.beginRound l).run P w = .ok () w₂ ∧ c.wpIn (FW (some l)) n P (roundPost P l R) a w₂) :
  ∀ a, Holds N F a → Exit.then (fun a₁ w₁ => ∃ w₂, (Instr.beginRound l).run P w₁ = .ok () w₂ ∧ c.wpIn (FW (some l)) n P (roundPost P l R) a₁ w₂) (fun _ _ _ => False) .normal a w := h
end
end Go.Proofs.YtlldeifbfpmbaaaGreat
namespace Go.Proofs.YtlldeifbfpmbaaaGreat
def sumTo (f : Int → Int) : Nat → Int
 | 0 => 0
 | n + 1 => sumTo f n + f n
def sm (f : Int → Int) (k : Int) : Int := sumTo f k.toNat
theorem sm_neg (f : Int → Int) {k : Int} (h : k ≤ 0) : sm f k = 0 := by
 unfold sm; rw [show k.toNat = 0 by omega]; rfl
theorem sm_succ (f : Int → Int) {k : Int} (h : 0 ≤ k) : sm f (k + 1) = sm f k + f k := by
 unfold sm
 rw [show (k + 1).toNat = k.toNat + 1 by omega]
 simp only [sumTo, Int.toNat_of_nonneg h]
theorem sm_ind {f : Int → Int} {p : Int → Int → Prop} (h0 : p 0 0) (hs : ∀ k : Int, 0 ≤ k → ∀ s, p k s → p (k + 1) (s + f k)) {k : Int} (hk : 0 ≤ k) : p k (sm f k) := by
 obtain ⟨n, rfl⟩ := Int.eq_ofNat_of_zero_le hk
 induction n with
 | zero => exact h0
 | succ n ih =>
  have e : ((n + 1 : Nat) : Int) = (n : Int) + 1 := by omega
  rw [e, sm_succ f (by omega)]
  exact hs n (by omega) _ (ih (by omega))
theorem sm_congr {f g : Int → Int} {k : Int} (h : ∀ i : Int, 0 ≤ i → i < k → f i = g i) : sm f k = sm g k := by
 unfold sm
 have key : ∀ n : Nat, (n : Int) ≤ k → sumTo f n = sumTo g n := by
  intro n
  induction n with
  | zero => intro _; rfl
  | succ n ih => intro hn; simp only [sumTo]; rw [ih (by omega), h n (by omega) (by omega)]
 by_cases hk : 0 ≤ k
 ·exact key _ (by omega)
 ·rw [show k.toNat = 0 by omega]; rfl
theorem sm_le {f g : Int → Int} {k : Int} (h : ∀ i : Int, 0 ≤ i → i < k → f i ≤ g i) : sm f k ≤ sm g k := by
 unfold sm
 have key : ∀ n : Nat, (n : Int) ≤ k → sumTo f n ≤ sumTo g n := by
  intro n
  induction n with
  | zero => intro _; exact Int.le_refl _
  | succ n ih => intro hn; simp only [sumTo]; have := ih (by omega); have := h n (by omega) (by omega); omega
 by_cases hk : 0 ≤ k
 ·exact key _ (by omega)
 ·rw [show k.toNat = 0 by omega]; exact Int.le_refl _
theorem sm_const (c : Int) {k : Int} (hk : 0 ≤ k) : sm (fun _ => c) k = k * c := by
 obtain ⟨n, rfl⟩ := Int.eq_ofNat_of_zero_le hk
 induction n with
 | zero => simp [sm, sumTo]
 | succ n ih =>
  have e : ((n + 1 : Nat) : Int) = (n : Int) + 1 := by omega
  rw [e, sm_succ _ (by omega), ih (by omega), Int.add_mul, Int.one_mul]
theorem sm_bound {f : Int → Int} {k : Int} (M : Int) (hk : 0 ≤ k) (h : ∀ i : Int, 0 ≤ i → i < k → f i ≤ M) : sm f k ≤ k * M := by
 rw [← sm_const M hk]; exact sm_le h
theorem sm_bound' {f : Int → Int} {k : Int} (M : Int) (hk : 0 ≤ k) (h : ∀ i : Int, 0 ≤ i → i < k → M ≤ f i) : k * M ≤ sm f k := by
 rw [← sm_const M hk]; exact sm_le h
theorem sm_nonneg {f : Int → Int} {k : Int} (h : ∀ i : Int, 0 ≤ i → i < k → 0 ≤ f i) : 0 ≤ sm f k := by
 by_cases hk : 0 ≤ k
 ·have := sm_bound' 0 hk h; simpa using this
 ·rw [sm_neg f (by omega)]; exact Int.le_refl _
theorem sm_sub (f g : Int → Int) (k : Int) : sm (fun i => f i - g i) k = sm f k - sm g k := by
 unfold sm
 induction k.toNat with
 | zero => rfl
 | succ n ih => simp only [sumTo]; omega
theorem sm_swap (f : Int → Int → Int) (n m : Int) : sm (fun i => sm (fun j => f i j) m) n = sm (fun j => sm (fun i => f i j) n) m := by
 unfold sm
 induction n.toNat with
 | zero =>
  simp only [sumTo]
  induction m.toNat with
  | zero => rfl
  | succ m ih => simp only [sumTo]; omega
 | succ n ih =>
  simp only [sumTo]
  rw [ih]
  induction m.toNat with
  | zero => rfl
  | succ m ih2 =>
   simp only [sumTo]
   omega
theorem sm_upd (f : Int → Int) (i x : Int) {k : Int} (h0 : 0 ≤ i) (hi : i < k) : sm (upd f i x) k = sm f k - f i + x := by
 obtain ⟨n, rfl⟩ := Int.eq_ofNat_of_zero_le (show 0 ≤ k by omega)
 induction n with
 | zero => omega
 | succ n ih =>
  have e : ((n + 1 : Nat) : Int) = (n : Int) + 1 := by omega
  rw [e, sm_succ _ (by omega), sm_succ _ (by omega)]
  by_cases hin : i < n
  ·rw [ih hin, upd_ne _ _ (by omega)]; omega
  ·have : i = n := by omega
   subst this
   rw [upd_same, sm_congr (g := f) (fun j _ hj => upd_ne _ _ (by omega))]; omega
theorem sm_pos {f : Int → Int} {k : Int} (h : ∀ i : Int, 0 ≤ i → i < k → 0 ≤ f i) (i : Int) (h0 : 0 ≤ i) (hi : i < k) : f i ≤ sm f k := by
 have e := sm_upd f i 0 h0 hi
 have : 0 ≤ sm (upd f i 0) k := sm_nonneg fun j a b => by
  unfold upd; split
  ·exact Int.le_refl _
  ·exact h j a b
 omega
end Go.Proofs.YtlldeifbfpmbaaaGreat
