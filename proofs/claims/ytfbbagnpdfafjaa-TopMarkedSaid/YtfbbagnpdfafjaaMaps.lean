import Derived.Test.YtfbbagnpdfafjaaRul
import Derived.MapKept
set_option maxRecDepth 100000
namespace Go.Proofs.Ytfbbagnpdfafjaa
open Go.RowKit Go.Proofs Go.MapKept
def ents : List (Int × Value) → Nat → List MapEntry
 | [], _ => []
 | (k, v) :: r, s => ⟨.int .i64 k, v, s⟩ :: ents r (s + 1)
def fnd : List (Int × Value) → Int → Nat → Option (Nat × Value)
 | [], _, _ => none
 | (j, v) :: r, k, i => if k = j then some (i, v) else fnd r k (i + 1)
def lkp : List (Int × Value) → Int → Option Value
 | [], _ => none
 | (j, v) :: r, k => if k = j then some v else lkp r k
def mput : List (Int × Value) → Int → Value → List (Int × Value)
 | [], k, v => [(k, v)]
 | (j, u) :: r, k, v => if k = j then (k, v) :: r else (j, u) :: mput r k v
def mch (b : Nat) (L : List (Int × Value)) : Blk := ⟨b, 0, 0, fun _ => undef, some ((ents L 0).toArray, L.length)⟩
theorem fnd_lkp : ∀ (L : List (Int × Value)) (k : Int) (i : Nat), (fnd L k i).map (·.2) = lkp L k
 | [], _, _ => rfl
 | (j, v) :: r, k, i => by unfold fnd lkp; split; rfl; exact fnd_lkp r k (i + 1)
theorem findNow_ents : ∀ (L : List (Int × Value)) (s : Nat) (k : Int) (i : Nat), Instr.findNow (.int .i64) (.int .i64 k) (ents L s) i = some (fnd L k i)
 | [], _, _, _ => rfl
 | (j, v) :: r, s, k, i => by
  unfold ents Instr.findNow fnd
  simp only [Instr.sameNow, if_true]
  by_cases h : k = j
  ·subst h; simp
  ·have : (k == j) = false := by simpa using h
   simp only [this, if_neg h]
   exact findNow_ents r (s + 1) k (i + 1)
theorem fnd_some : ∀ {L : List (Int × Value)} {k : Int} {i j : Nat} {u : Value}, fnd L k i = some (j, u) → ∃ m, j = i + m ∧ ∀ s v, (ents L s)[m]?.map (·.key) = some (.int .i64 k) ∧ (ents L s).modify m (fun e => { e with key := .int .i64 k, val := v }) = ents (mput L k v) s ∧ (mput L k v).length = L.length
 | [], _, _, _, _, h => by cases h
 | (j0, u0) :: r, k, i, j, u, h => by
  unfold fnd at h
  by_cases e : k = j0
  ·subst e
   simp only [if_true, Option.some.injEq, Prod.mk.injEq] at h
   refine ⟨0, by omega, fun s v => ?_⟩
   simp [ents, mput]
  ·rw [if_neg e] at h
   obtain ⟨m, h1, h2⟩ := fnd_some h
   refine ⟨m + 1, by omega, fun s v => ?_⟩
   obtain ⟨h3, h4, h5⟩ := h2 (s + 1) v
   unfold mput
   rw [if_neg e]
   refine ⟨by simpa [ents] using h3, by simp [ents, h4], by simp [h5]⟩
theorem fnd_none : ∀ {L : List (Int × Value)} {k : Int} {i : Nat}, fnd L k i = none → ∀ s v, ents L s ++ [⟨.int .i64 k, v, s + L.length⟩] = ents (mput L k v) s ∧ (mput L k v).length = L.length + 1
 | [], _, _, _ => fun s v => by simp [ents, mput]
 | (j0, u0) :: r, k, i, h => fun s v => by
  unfold fnd at h
  by_cases e : k = j0
  ·rw [if_pos e] at h; cases h
  ·rw [if_neg e] at h
   obtain ⟨h1, h2⟩ := fnd_none h (s + 1) v
   unfold mput
   rw [if_neg e]
   refine ⟨?_, by simp [h2]⟩
   simp only [ents, List.cons_append, List.length_cons]
   rw [show s + (r.length + 1) = s + 1 + r.length by omega, h1]
theorem lkp_mput : ∀ (L : List (Int × Value)) (k : Int) (v : Value) (j : Int), lkp (mput L k v) j = if j = k then some v else lkp L j
 | [], k, v, j => by simp [mput, lkp]
 | (j0, u0) :: r, k, v, j => by
  unfold mput
  by_cases e : k = j0
  ·rw [if_pos e]
   simp only [lkp]
   by_cases e2 : j = k
   ·simp [e2]
   ·rw [if_neg e2, if_neg e2, if_neg (by rw [← e]; exact e2)]
  ·rw [if_neg e]
   simp only [lkp, lkp_mput r k v j]
   by_cases e2 : j = j0
   ·rw [if_pos e2, if_neg (by rw [e2]; exact fun h => e h.symm), if_pos e2]
   ·rw [if_neg e2, if_neg e2]
theorem mput_keys : ∀ (L : List (Int × Value)) (k : Int) (v : Value) (x : Int), x ∈ (mput L k v).map (·.1) → x = k ∨ x ∈ L.map (·.1)
 | [], k, v, x, h => by simpa [mput] using h
 | (j0, u0) :: r, k, v, x, h => by
  unfold mput at h
  by_cases e : k = j0
  ·rw [if_pos e] at h
   simp only [List.map_cons, List.mem_cons] at h ⊢
   rcases h with h | h
   ·exact .inl h
   ·exact .inr (.inr h)
  ·rw [if_neg e] at h
   simp only [List.map_cons, List.mem_cons] at h ⊢
   rcases h with h | h
   ·exact .inr (.inl h)
   ·rcases mput_keys r k v x h with h | h
    ·exact .inl h
    ·exact .inr (.inr h)
theorem mput_nodup : ∀ {L : List (Int × Value)} (k : Int) (v : Value), (L.map (·.1)).Nodup → ((mput L k v).map (·.1)).Nodup
 | [], k, v, _ => by simp [mput]
 | (j0, u0) :: r, k, v, h => by
  simp only [List.map_cons, List.nodup_cons] at h
  unfold mput
  by_cases e : k = j0
  ·rw [if_pos e]; simp only [List.map_cons, List.nodup_cons]; rw [e]; exact h
  ·rw [if_neg e]
   simp only [List.map_cons, List.nodup_cons]
   refine ⟨fun hm => ?_, mput_nodup k v h.2⟩
   rcases mput_keys r k v j0 hm with h1 | h1
   ·exact e h1.symm
   ·exact h.1 h1
section
variable {P : Program} {f N : Nat} {o : Oper} {F : Fr} {w : World} {k : List Item} {R : Ending → World → Prop} {ops : Array Oper} {rest : List Oper} {B : Nat} {w0 : World} {H : List (Option Blk)}
theorem Own.mapAt (h : Own B w0 w H) (kk : Nat) {b : Nat} {L : List (Int × Value)} (hk : H[kk]? = some (some (mch b L))) : w.heap[b]? = some (.map (ents L 0).toArray L.length) := h.gets kk hk
theorem ov_lookup {T kt et : TypeId} {x ix : Operand} {z : Value} {b : Nat} {i : Int} {L : List (Int × Value)} (ho : o.op = .lookup T x ix false) (hT : P.underlying T = some (.map kt et)) (hk : P.underlying kt = some (.int .i64)) (hz : (P.info? et).map (·.zero) = some (some z))
  (hx : Fr.ev F x = some (.map (some b))) (hi : Fr.ev F ix = some (.int .i64 i)) (hm : w.heap[b]? = some (.map (ents L 0).toArray L.length)) : OpV P N o F w ((lkp L i).getD z) := by
 intro a ha
 unfold execOp
 rw [ho]
 obtain ⟨it, hit, hz0⟩ := Option.map_eq_some_iff.1 hz
 have h1 := run_findKey (P := P) (w := w) hk (findNow_ents L 0 i 0)
 have h2 : ∀ e n, (Instr.checkKey e (n + 1) kt (.int .i64 i)).run P w = .ok () w := fun e n => run_checkKey hk (by simp [IsKey]) e n
 have h3 := h2 (ents L 0).toArray.isEmpty 9999
 have e := fnd_lkp L i 0
 have hl : (Instr.lookup T (.map (some b)) (.int .i64 i) false).run P w = .ok ((lkp L i).getD z) w := by
  unfold Instr.lookup
  simp only [Sem.run_bind, run_underlying hT, Result.andThen_ok, MapKept.run_getObj_map hm, Sem.run_pure, h3, h1]
  cases hf : fnd L i 0 with
  | none => rw [hf] at e; simp only [Option.map_none] at e; rw [← e]; simp [zeroValue, typeInfo, hit, hz0, Result.andThen]
  | some p => obtain ⟨q, u⟩ := p; rw [hf] at e; simp only [Option.map_some] at e; rw [← e]; simp
 simp [ha.ev hx, ha.ev hi, hl, Result.andThen]
theorem ow_mapput {T kt et : TypeId} {x ix y : Operand} {v : Value} {b : Nat} {i : Int} {L : List (Int × Value)} (hd : o.dst = none) (ho : o.op = .mapUpdate T x ix y) (hT : P.underlying T = some (.map kt et)) (hk : P.underlying kt = some (.int .i64))
  (hO : Own B w0 w H) (kk : Nat) (hkk : H[kk]? = some (some (mch b L))) (hx : Fr.ev F x = some (.map (some b))) (hi : Fr.ev F ix = some (.int .i64 i)) (hy : Fr.ev F y = some v) :
  OpW P N o F w (fun F' w' => F' = F ∧ Own B w0 w' (H.set kk (some (mch b (mput L i v)))) ∧ w'.heap.size = w.heap.size) := by
 have hm := hO.mapAt kk hkk
 have h1 := run_findKey (P := P) (w := w) hk (findNow_ents L 0 i 0)
 have h2 : ∀ e n, (Instr.checkKey e (n + 1) kt (.int .i64 i)).run P w = .ok () w := fun e n => run_checkKey hk (by simp [IsKey]) e n
 have h3 := h2 false 9999
 have hlt : b < w.heap.size := (Array.getElem?_eq_some_iff.1 hm).1
 have hrun : (Instr.mapUpdate T (.map (some b)) (.int .i64 i) v).run P w = .ok () { w with heap := w.heap.setIfInBounds b (.map (ents (mput L i v) 0).toArray (mput L i v).length) } := by
  unfold Instr.mapUpdate
  simp only [Sem.run_bind, run_underlying hT, Result.andThen_ok, MapKept.run_getObj_map hm, h3, h1]
  cases hf : fnd L i 0 with
  | none =>
   obtain ⟨g1, g2⟩ := fnd_none hf 0 v
   simp only [MapKept.run_setObj_map _ hm]
   rw [Nat.zero_add] at g1
   rw [← g1, g2]
   simp
  | some p =>
   obtain ⟨q, u⟩ := p
   obtain ⟨m, e, g⟩ := fnd_some hf
   obtain ⟨g1, g2, g3⟩ := g 0 v
   rw [Nat.zero_add] at e
   subst e
   have hkey : (((ents L 0).toArray[q]?).map (·.key)).getD (.int .i64 i) = .int .i64 i := by
    rw [List.getElem?_toArray, g1]; rfl
   have hst : (Instr.keyThatStays (.int .i64 i) (.int .i64 i)).run P w = .ok (.int .i64 i) w := run_keyThatStays (d := .int .i64) (by simp [IsKey])
   simp only [hkey, Sem.run_bind, hst, Result.andThen_ok, MapKept.run_setObj_map _ hm, g3]
   rw [← g2]
   simp
 refine (ow_u (w' := { w with heap := w.heap.setIfInBounds b (.map (ents (mput L i v) 0).toArray (mput L i v).length) }) hd (fun a ha => ?_)).mono fun F' w' ⟨e1, e2⟩ => ⟨e1, ?_, by rw [e2]; simp⟩
 ·unfold execOp
  simp only [ho, ha.ev hx, ha.ev hi, ha.ev hy, Sem.run_bind, hrun, Result.andThen_ok, Sem.run_pure]
 ·rw [e2]
  have hge := hO.ge _ (List.mem_of_getElem? hkk)
  refine hO.updBB kk hkk ⟨rfl, rfl, rfl, by simp, fun j hj => ?_⟩ (fun j _ hj => ?_) ?_ hge (.inl rfl)
  ·exact (heap_set hm).2 j (by intro e; rw [e] at hj; exact Nat.lt_irrefl _ (Nat.lt_of_lt_of_le hj hge))
  ·exact (heap_set hm).2 j hj
  ·exact (heap_set hm).1
theorem ow_makemap {T : TypeId} {d : Nat} (hd : o.dst = some d) (hN : Nat.blt d N = true) (ho : o.op = .makeMap T none) (hO : Own B w0 w H) :
  OpW P N o F w (fun F' w' => ∃ b, F' = (d, .map (some b)) :: F ∧ Own B w0 w' (some (mch b []) :: H) ∧ Below w.heap.size w w') := by
 refine (ow_w (v := .map (some w.heap.size)) (w' := w.alloc (.map #[] 0)) hd hN (fun a ha => ?_)).mono fun F' w' ⟨h1, h2⟩ => ⟨w.heap.size, h1, ?_, by rw [h2]; exact (Below.refl _ _).alloc (Nat.le_refl _) _⟩
 ·unfold execOp
  rw [ho]
  simp [Instr.makeMap, Result.andThen]
 ·rw [h2]
  have hp : Own B w0 (w.alloc (.map #[] 0)) H := hO.past ((Below.refl _ _).alloc (Nat.le_refl _) _)
  refine hp.consB ?_ hO.size (fun y hy => ?_)
  ·show (w.alloc (.map #[] 0)).heap[w.heap.size]? = some (.map #[] 0)
   exact (heap_alloc w _).1
  ·have := blkIs.lt (hO.at_ y hy)
   show w.heap.size ≠ y.b
   omega
theorem rl_panic {x : Operand} {t : TypeId} {v : Value} (hg : o.guard = none) (ho : o.op = .panic x) (hx : Fr.ev F x = some (.iface t v)) (hf : ∃ fn, P.funcs[f]? = some fn) (hR : R (.panicked [{ v := .iface t v, recovered := false }]) w) : RL P f N ops (o :: rest) k F w R := by
 intro a ha
 refine wpList_plain hg fun K hK => ?_
 unfold Oper.wp
 have hrun : (execOp a.eval o).run P w = .halt (.panic (.iface t v)) w := by
  unfold execOp
  rw [ho]
  simp [Instr.panic, ha.ev hx, goPanic, Result.andThen]
 rw [hrun]
 exact ⟨ha.defs, hf, hR⟩
theorem rl_callP {fo : Operand} {xs : Array Operand} {ats : Array TypeId} {g : FuncId} {cap : Array Value} {vs : List Value} {d : Nat} {Post : Ending → World → Prop} (hcl : Callable P g) (hg : o.guard = none) (hd : o.dst = some d) (hN : Nat.blt d N = true)
  (ho : o.op = .call { callee := .value fo, args := xs, argTypes := ats }) (hf : Fr.ev F fo = some (.func (.func g) #[] cap)) (hx : Fr.evs F xs.toList = some vs) (hfn : ∃ fn, P.funcs[f]? = some fn)
  (hC : Calls P g (vs.toArray ++ cap) w Post) (h : ∀ e w', Post e w' → (∃ v, e = .returned v ∧ RL P f N ops rest k ((d, v) :: F) w' R) ∨ ∃ ch, e = .panicked ch ∧ R (.panicked ch) w') : RL P f N ops (o :: rest) k F w R := by
 intro a ha
 refine wpList_plain hg fun K hK => ?_
 have hargs : xs.map a.eval = vs.toArray := by
  apply Array.ext'
  simpa using ha.evs hx
 have hrun : (execOp a.eval o).run P w = .ok (.enter g (vs.toArray ++ cap)) w := by
  unfold execOp
  simp only [ho, resolve, Sem.run_bind, Deferred.ofValue, ha.ev hf, hargs]
  simp [invoke, Result.andThen, run_callFunc hcl]
 unfold Oper.wp
 rw [hrun]
 refine hC.mono fun e w' hp => ?_
 rcases h e w' hp with ⟨v, rfl, hv⟩ | ⟨ch, rfl, hr⟩
 ·show K (a.put o.dst v) w'
  rw [hd]
  exact hK _ _ (hv _ (ha.put (lt_of_blt hN) v))
 ·exact ⟨ha.defs, hfn, hr⟩
theorem rl_invokeP {fo : Operand} {xs : Array Operand} {ats : Array TypeId} {name : String} {g : FuncId} {t : TypeId} {rv rcv : Value} {vs : List Value} {d : Nat} {Post : Ending → World → Prop} (hcl : Callable P g) (hg : o.guard = none) (hd : o.dst = some d) (hN : Nat.blt d N = true)
  (ho : o.op = .call { callee := .invoke fo name, args := xs, argTypes := ats }) (hf : Fr.ev F fo = some (.iface t rv)) (hm : (method (P.types.size + Made.depth) t rv name).run P w = .ok (g, rcv) w) (hx : Fr.evs F xs.toList = some vs) (hfn : ∃ fn, P.funcs[f]? = some fn)
  (hC : Calls P g (#[rcv] ++ vs.toArray) w Post) (h : ∀ e w', Post e w' → (∃ v, e = .returned v ∧ RL P f N ops rest k ((d, v) :: F) w' R) ∨ ∃ ch, e = .panicked ch ∧ R (.panicked ch) w') : RL P f N ops (o :: rest) k F w R := by
 intro a ha
 refine wpList_plain hg fun K hK => ?_
 have hargs : xs.map a.eval = vs.toArray := by
  apply Array.ext'
  simpa using ha.evs hx
 have hex : (#[Value.iface t rv] ++ vs.toArray).extract 1 (#[Value.iface t rv] ++ vs.toArray).size = vs.toArray := by
  apply Array.ext'
  simp
 have hrun : (execOp a.eval o).run P w = .ok (.enter g (#[rcv] ++ vs.toArray)) w := by
  unfold execOp
  simp only [ho, resolve, Sem.run_bind, ha.ev hf, hargs]
  simp only [Sem.run_pure, Result.andThen_ok]
  unfold invoke
  simp only
  have h0 : (#[Value.iface t rv] ++ vs.toArray)[0]? = some (Value.iface t rv) := by simp
  rw [h0]
  simp only [hex]
  unfold callMethod
  simp [hm, run_callFunc hcl, Result.andThen]
 unfold Oper.wp
 rw [hrun]
 refine hC.mono fun e w' hp => ?_
 rcases h e w' hp with ⟨v, rfl, hv⟩ | ⟨ch, rfl, hr⟩
 ·show K (a.put o.dst v) w'
  rw [hd]
  exact hK _ _ (hv _ (ha.put (lt_of_blt hN) v))
 ·exact ⟨ha.defs, hfn, hr⟩
theorem ov_slice3 {T E : TypeId} {x h u : Operand} {ao : Option Addr} {n c : Nat} {k1 k2 : IntKind} {j j2 : Int} {s : Nat} (m : Nat) (ho : o.op = .slice T x none (some h) (some u)) (hT : P.underlying T = some (.slice E)) (hs : (P.info? E).map (·.size) = some s)
  (hx : Fr.ev F x = some (.slice ao n c)) (hh : Fr.ev F h = some (.int k1 j)) (hu : Fr.ev F u = some (.int k2 j2)) (hj : j = m) (hj2 : j2 = m) (hb : m ≤ c) : OpV P N o F w (.slice ao m m) := by
 intro a ha
 subst hj; subst hj2
 cases hq : P.info? E with
 | none => simp [hq] at hs
 | some q =>
  unfold execOp
  rw [ho]
  have e : ∀ ad : Addr, ad.add 0 = ad := fun ad => by unfold Addr.add; simp
  have e2 : (fun x : Addr => x.add 0) = id := funext e
  simp [Instr.sliceAt, Instr.slice, Instr.sliceBounds, Instr.sliceBound, asIntOf, run_underlying hT, ha.ev hx, ha.ev hh, ha.ev hu, Result.andThen, hb, sizeOf, typeInfo, hq, e2]
theorem ov_ptrnil {T U E : TypeId} {x : Operand} {ad : Option Addr} (ho : o.op = .binOp .eql T x (.const (.pointer none)) U) (hT : P.underlying T = some (.pointer E)) (hx : Fr.ev F x = some (.pointer ad)) : OpV P N o F w (.bool ad.isNone) := by
 intro a ha
 have hn : a.eval (.const (.pointer none)) = .pointer none := rfl
 have h0 : (Op.equal T (.pointer ad) (.pointer none)).run P w = .ok ad.isNone w := by
  unfold Op.equal Op.maxDepth Op.equalIn
  rw [Sem.run_bind, run_underlying hT]
  cases ad <;> simp [Result.andThen]
 unfold execOp
 simp only [ho, ha.ev hx, hn, Sem.run_bind, eqGuard]
 simp [binOp, h0, Result.andThen]
theorem ov_assert2 {T xT t : TypeId} {x : Operand} {v z : Value} {dd : TypeDesc} (ho : o.op = .typeAssert x xT T true) (hT : P.underlying T = some dd) (hd : (match dd with | .interface _ => false | _ => true) = true) (hz : (P.info? T).map (·.zero) = some (some z)) (hx : Fr.ev F x = some (.iface t v)) :
  OpV P N o F w (.tuple #[if t = T then v else z, .bool (decide (t = T))]) := by
 intro a ha
 obtain ⟨it, hit, hz0⟩ := Option.map_eq_some_iff.1 hz
 unfold execOp
 rw [ho]
 have h1 : (Instr.typeAssert (.iface t v) xT T true).run P w = .ok (.tuple #[if t = T then v else z, .bool (decide (t = T))]) w := by
  unfold Instr.typeAssert
  rw [Sem.run_bind, run_underlying hT w]
  by_cases e : t = T
  ·cases dd <;> simp_all
  ·cases dd <;> simp_all [zeroValue, typeInfo, Result.andThen]
 simp [ha.ev hx, h1, Result.andThen]
theorem ov_indexV {T E : TypeId} {x ix : Operand} {n : Nat} {cs : Array Value} {kk : IntKind} {i : Int} {v : Value} {dd : TypeDesc} (ho : o.op = .index T x ix) (hT : P.underlying T = some (.array n E)) (hE : P.underlying E = some dd) (hd : dd.isRow = false) (hs : (P.info? E).map (·.size) = some 1)
  (hx : Fr.ev F x = some (.agg cs)) (hi : Fr.ev F ix = some (.int kk i)) (hb : 0 ≤ i ∧ i < n) (hv : cs[i.toNat]? = some v) : OpV P N o F w v := by
 intro a ha
 unfold execOp
 rw [ho]
 cases hq : P.info? E with
 | none => simp [hq] at hs
 | some q =>
  have hs' : q.size = 1 := by simpa [hq] using hs
  have hag : (isAgg E).run P w = .ok false w := by
   unfold isAgg
   rw [Sem.run_bind, run_underlying hE]
   cases dd <;> simp_all [TypeDesc.isRow]
  have hp : (part E cs i.toNat).run P w = .ok v w := by
   unfold part
   simp [hag, hv, Result.andThen]
  simp [Instr.index, asIntOf, run_underlying hT, ha.ev hx, ha.ev hi, Result.andThen, hb, sizeOf, typeInfo, hq, hs', hp]
theorem run_appG {t ty E : TypeId} {i : TypeInfo} {z : Value} (ht : P.underlying t = some (.slice E)) (hi : P.info? E = some i) (hz : i.zero = some z) (hzs : z.cells.size = i.size)
  {ao : Option Addr} {b n : Nat} {f : Nat → Value} (ho : Own B w0 w H) (hao : 0 < n → ao = some ⟨b, 0, none⟩) (hf : ∀ j, j < n * i.size → w.cell? ⟨b, j, none⟩ = some (f j))
  (ad : Addr) (m cp : Nat) (news : List Value) (hl : news.length = m * i.size) (hnews : ∀ j u, news[j]? = some u → w.cell? (ad.add j) = some u)
  (hm : 0 < m) (h63 : n + m ≤ maxLen) (hbytes : (n + m) * i.bytes ≤ 140737488355328) :
  ∃ v' blk w', (Builtin.append_ #[t, t] ty #[.slice ao n n, .slice (some ad) m cp]).run P w = .ok v' w' ∧ Own B w0 w' (some blk :: H) ∧ w.heap.size ≤ w'.heap.size ∧ Row v' E i.size (n + m) (appF (n * i.size) f news) (some blk) := by
 have hsmall : n + m ≤ 9223372036854775807 := by simp only [maxLen] at h63; omega
 have grown : ∀ (olds : List Value), olds.length = n * i.size → (∀ j, j < n * i.size → olds[j]? = some (f j)) → ∀ cp' : Nat, n + m ≤ cp' →
   ∃ g, (w.drew.alloc (.cells (olds.toArray ++ news.toArray ++ Builtin.zeroCells z.cells (cp' - (n + m))) E)).rowIs w.heap.size E (cp' * i.size) (appG (n * i.size) ((n + m) * i.size) f news g) := by
  intro olds hlo hof cp' hcp
  generalize hA : olds.toArray ++ news.toArray ++ Builtin.zeroCells z.cells (cp' - (n + m)) = A
  have hsize : A.size = cp' * i.size := by
   rw [← hA]
   simp only [Array.size_append, List.size_toArray, size_zeroCells, hzs, hlo, hl, ← Nat.add_mul]
   congr 1; omega
  refine ⟨fun j => A[j]?.getD undef, ?_⟩
  have := World.rowIs_alloc w.drew A E (appG (n * i.size) ((n + m) * i.size) f news (fun j => A[j]?.getD undef))
  rw [hsize] at this
  refine this fun j hj => ?_
  unfold appG
  by_cases h1 : j < n * i.size
  ·rw [if_pos h1, ← hA, Array.getElem?_append_left (by simp [hlo, hl]; omega), Array.getElem?_append_left (by simpa [hlo] using h1)]
   simpa using hof j h1
  ·rw [if_neg h1]
   by_cases h2 : j < (n + m) * i.size
   ·rw [if_pos h2, ← hA, Array.getElem?_append_left (by simp [hlo, hl, ← Nat.add_mul]; omega), Array.getElem?_append_right (by simp [hlo]; omega)]
    have : j - n * i.size < news.length := by rw [hl]; rw [Nat.add_mul] at h2; omega
    simp [hlo, this]
   ·rw [if_neg h2]
    obtain ⟨u, hu⟩ : ∃ u, A[j]? = some u := ⟨_, Array.getElem?_eq_getElem (by omega)⟩
    simp only [hu, Option.getD_some]
 have rowOf : ∀ (b cp' : Nat) (g : Nat → Value), n + m ≤ cp' → cp' ≤ maxLen → (∀ j, j < (n + m) * i.size → g j = appF (n * i.size) f news j) →
   Row (.slice (some ⟨b, 0, none⟩) (n + m) cp') E i.size (n + m) (appF (n * i.size) f news) (some ⟨b, E, cp' * i.size, g, none⟩) :=
  fun b cp' g h1 h2 h3 => .inr ⟨b, cp', g, rfl, h1, h2, rfl, h3⟩
 have fin : ∀ (ob : Obj) (y : Blk), y.m = none → (w.drew.alloc ob).rowIs y.b y.t y.n y.f → y.b = w.heap.size → Own B w0 (w.drew.alloc ob) (some y :: H) := by
  intro ob y hy h1 h2
  have hp := ho.past (((Below.refl w.heap.size w).drew).alloc (by simp) ob)
  refine hp.consB (blkIs.of_row hy h1) (by rw [h2]; exact ho.size) (fun x hx => ?_)
  have := blkIs.lt (ho.at_ x hx)
  omega
 cases ao with
 | none =>
  have hn0 : n = 0 := by
   rcases Nat.eq_zero_or_pos n with h | h
   ·exact h
   ·exact absurd (hao h) (by simp)
  subst hn0
  have hrun := run_append_nil (P := P) w t ty E i z ht hi hz ad m cp news hl hnews hm (by omega) (by have hb := hbytes; simp only [Nat.zero_add] at hb; omega)
  have hge := grownCap_ge w m 0 E
  have hle := grownCap_le_maxLen w m 0 E (by omega)
  obtain ⟨g, hg⟩ := grown [] (by simp) (fun j hj => by omega) (grownCap w m 0 E) (by omega)
  simp only [Nat.zero_add, Array.empty_append] at hg
  refine ⟨_, ⟨w.heap.size, E, grownCap w m 0 E * i.size, appG (0 * i.size) (m * i.size) f news g, none⟩, _, hrun, fin _ _ rfl hg rfl, by simp, ?_⟩
  have := rowOf w.heap.size (grownCap w m 0 E) (appG (0 * i.size) ((0 + m) * i.size) f news g) (by omega) hle (fun j hj => appG_eq _ _ hj)
  simpa only [Nat.zero_add] using this
 | some a0 =>
  have holds : ∀ j u, ((List.range (n * i.size)).map f)[j]? = some u → w.cell? (a0.add j) = some u := by
   intro j u hu
   have hj : j < n * i.size := by
    have := (List.getElem?_eq_some_iff.1 hu).1
    simpa using this
   have hn : 0 < n := Nat.pos_of_ne_zero fun e => by rw [e] at hj; omega
   have e := hao hn
   simp only [Option.some.injEq] at e
   rw [e]
   have hadd : (⟨b, 0, none⟩ : Addr).add j = ⟨b, j, none⟩ := by unfold Addr.add; split <;> simp_all
   rw [hadd, hf j hj]
   simpa [hj] using hu
  have hrun := run_append_grow (P := P) w t ty E i z ht hi hz a0 n n _ (by simp) holds ad m cp news hl hnews (by omega) (by omega) (growslice_fits (by omega) hbytes)
  have hge := grownCap_ge w (n + m) n E
  have hle := grownCap_le_maxLen w (n + m) n E h63
  obtain ⟨g2, hgr⟩ := grown ((List.range (n * i.size)).map f) (by simp) (fun j hj => by simp [hj]) (grownCap w (n + m) n E) hge
  refine ⟨_, ⟨w.heap.size, E, grownCap w (n + m) n E * i.size, appG (n * i.size) ((n + m) * i.size) f news g2, none⟩, _, hrun, fin _ _ rfl hgr rfl, by simp, ?_⟩
  exact rowOf w.heap.size _ _ hge hle (fun j hj => appG_eq _ _ hj)
theorem ow_appG {T E : TypeId} {a1 y : Operand} {d b2 b : Nat} {z : Value} {s by_ n : Nat} {G : Int → List Value} {x : List Value} {ao : Option Addr} (hd : o.dst = some d) (hN : Nat.blt d N = true)
  (ho : o.op = .call { callee := .builtin .append, args := #[a1, y], argTypes := #[T, T] })
  (hT : P.underlying T = some (.slice E)) (hinfo : (P.info? E).map (fun i => (i.zero, i.size, i.bytes)) = some (some z, s, by_)) (hsz : Nat.blt 0 s = true) (hz : z.cells.size = s)
  (hO : Own B w0 w (some ⟨b2, E, 1 * s, fun j => ([x].getD (j / s) []).getD (j % s) undef, none⟩ :: H)) (hs : Fr.ev F a1 = some (.slice ao n n)) (hy : Fr.ev F y = some (.slice (some ⟨b2, 0, none⟩) 1 1)) (hxl : x.length = s)
  (hao : 0 < n → ao = some ⟨b, 0, none⟩) (hr : ∀ i : Int, 0 ≤ i → i < n → ∀ fo, fo < s → w.cell? ⟨b, 0 + i.toNat * s + fo, none⟩ = some ((G i).getD fo undef))
  (hb : n + 1 ≤ 9223372036854775807 ∧ (n + 1) * by_ ≤ 140737488355328) :
  OpW P N o F w (fun F' w' => ∃ v' blk, F' = (d, v') :: F ∧ Own B w0 w' (some blk :: H) ∧ SRow v' E s (n + 1) (upd G n x) (some blk) ∧ w.heap.size ≤ w'.heap.size) := by
 obtain ⟨i, hi, hz0, rfl, hby⟩ := info_parts hinfo
 have hsp := lt_of_blt hsz
 have hf : ∀ j, j < n * i.size → w.cell? ⟨b, j, none⟩ = some ((G ((j / i.size : Nat) : Int)).getD (j % i.size) undef) := fun j hj => by
  have h1 : j / i.size < n := Nat.div_lt_of_lt_mul (by rw [Nat.mul_comm]; exact hj)
  have h2 := hr ((j / i.size : Nat) : Int) (Int.natCast_nonneg _) (Int.ofNat_lt.2 h1) (j % i.size) (Nat.mod_lt _ hsp)
  rw [Int.toNat_natCast] at h2
  have hdm := Nat.div_add_mod j i.size
  rw [Nat.mul_comm] at hdm
  rwa [Nat.zero_add, hdm] at h2
 have hcell : ∀ j u, x[j]? = some u → w.cell? ((⟨b2, 0, none⟩ : Addr).add j) = some u := fun j u hu => by
  obtain ⟨hj, _⟩ := List.getElem?_eq_some_iff.1 hu
  rw [hxl] at hj
  have hadd : (⟨b2, 0, none⟩ : Addr).add j = ⟨b2, j, none⟩ := by unfold Addr.add; split <;> simp_all
  have h1 := hO.cell 0 rfl j (by show j < 1 * i.size; omega)
  rw [hadd]
  dsimp only at h1
  rw [h1, Nat.div_eq_of_lt hj, Nat.mod_eq_of_lt hj]
  simp [hu]
 obtain ⟨v', blk, w', hrun, h2, h3, h4⟩ := run_appG (P := P) (ty := o.type) (f := fun j => (G ((j / i.size : Nat) : Int)).getD (j % i.size) undef) hT hi hz0 hz hO.tail hao hf ⟨b2, 0, none⟩ 1 1 x (by omega) hcell (by omega) (by unfold maxLen; omega) (by rw [hby]; exact hb.2)
 refine (ow_w (v := v') (w' := w') hd hN (fun a ha => ?_)).mono fun F' w'' ⟨e1, e2⟩ => ⟨v', blk, e1, by rw [e2]; exact h2, Row.congr h4 fun j hj => ?_, by rw [e2]; exact h3⟩
 ·obtain ⟨cs, he⟩ := execOp_bi a.eval .append [a1, y] #[T, T] ho
  rw [he]
  simp [builtin, ha.ev hs, ha.ev hy, hrun, Result.andThen]
 ·unfold appF upd
  have hdm := Nat.div_add_mod j i.size
  rw [Nat.mul_comm] at hdm
  have hmod := Nat.mod_lt j hsp
  by_cases h1 : j < n * i.size
  ·rw [if_pos h1]
   have : j / i.size < n := Nat.div_lt_of_lt_mul (by rw [Nat.mul_comm]; exact h1)
   rw [if_neg (by omega)]
  ·rw [if_neg h1]
   have h5 : j / i.size = n := by
    have ha : n ≤ j / i.size := (Nat.le_div_iff_mul_le hsp).2 (by omega)
    have hb2 : j / i.size < n + 1 := Nat.div_lt_of_lt_mul (by rw [Nat.mul_comm]; exact hj)
    omega
   rw [if_pos (by omega)]
   rw [h5] at hdm
   rw [show j - n * i.size = j % i.size by omega]
end
end Go.Proofs.Ytfbbagnpdfafjaa
