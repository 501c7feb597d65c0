import Derived.Test.YtbcjfjldmfljgaaGreatEff
import Derived.StillTail
import Derived.OrdersHeld
namespace Go.Proofs.YtbcjfjldmfljgaaGreat
open Go.RowKit
section
variable {P : Program} {f N : Nat} {k : List Item} {F : Fr} {w : World} {R : Ending → World → Prop} {ops : Array Oper} {o : Oper} {rest : List Oper} {B : Nat} {w0 : World} {H : List (Option Blk)}
def RH (P : Program) (f N : Nat) (ops : Array Oper) (S : World → Prop) (fuel : Nat) (listed : Array Bool) (k : List Item) (F : Fr) (w : World) (R : Ending → World → Prop) : Prop :=
 ∀ a, Holds N F a → wpAnyH P .any ops (QK P f k R) S fuel listed a w
theorem run_held {id : Nat} {l : List Oper} (S : World → Prop) (hm : P.follows .mixedOrders = true) (h : RH P f N l.toArray S l.length (Array.replicate l.length false) k F w.drew R) : Run P f N (.code (.region id l.toArray true) :: k) F w R :=
 fun a ha => runA_of_wp (wp_region_held hm (by simpa using h a ha))
theorem qk_put {c : List PanicEntry} {a : Act} {d : Option Tmp} {v : Value} {w : World} (h : QK P f k R (.panic c) (a.put d v) w) : QK P f k R (.panic c) a w := by
 obtain ⟨h1, h2⟩ := h
 exact ⟨by cases d <;> simpa [Act.put] using h1, h2⟩
variable {S : World → Prop} {fuel : Nat} {listed : Array Bool}
theorem rh_v {d : Nat} {v : Value} {oi : Oper} (i : Nat) (hi : ops[i]? = some oi) (hs : (Region.noSelect ops && Region.free .any ops listed i && (Region.ready .any ops listed).contains i) = true)
  (hg : oi.guard = none) (hd : oi.dst = some d) (hN : Nat.blt d N = true) (hS : S w) (hv : ∀ w', S w' → OpV P N oi F w' v) (h : RH P f N ops S fuel (listed.setIfInBounds i true) k ((d, v) :: F) w R) : RH P f N ops S (fuel + 1) listed k F w R := by
 intro a ha
 simp only [Bool.and_eq_true] at hs
 refine wpAnyH_take hi hs.1.1 hs.1.2 hs.2 (fun _ _ _ h => qk_put h) (v := v) (.inl ⟨by simp [Region.wanted, hg], fun w' hw' => hv w' hw' a ha⟩) hS ?_
 rw [hd]
 exact h _ (ha.put (lt_of_blt hN) v)
theorem rh_gv {j g d : Nat} {b : Bool} {v : Value} {oi : Oper} (i : Nat) (hi : ops[i]? = some oi) (hs : (Region.noSelect ops && Region.free .any ops listed i && (Region.ready .any ops listed).contains i) = true)
  (hg : oi.guard = some (j, b)) (hj : (ops[j]?).bind (·.dst) = some g) (hb : Fr.get F g = some (.bool b)) (hd : oi.dst = some d) (hN : Nat.blt d N = true) (hS : S w) (hv : ∀ w', S w' → OpV P N oi F w' v) (h : RH P f N ops S fuel (listed.setIfInBounds i true) k ((d, v) :: F) w R) : RH P f N ops S (fuel + 1) listed k F w R := by
 intro a ha
 simp only [Bool.and_eq_true] at hs
 refine wpAnyH_take hi hs.1.1 hs.1.2 hs.2 (fun _ _ _ h => qk_put h) (v := v) (.inl ⟨by simp [Region.wanted, hg, yielded_of ha hj hb], fun w' hw' => hv w' hw' a ha⟩) hS ?_
 rw [hd]
 exact h _ (ha.put (lt_of_blt hN) v)
theorem rh_gskip {j g d : Nat} {b b' : Bool} {oi : Oper} (i : Nat) (hi : ops[i]? = some oi) (hs : (Region.noSelect ops && Region.free .any ops listed i && (Region.ready .any ops listed).contains i) = true)
  (hg : oi.guard = some (j, b)) (hj : (ops[j]?).bind (·.dst) = some g) (hb : Fr.get F g = some (.bool b')) (hne : (b' == b) = false) (hd : oi.dst = some d) (hN : Nat.blt d N = true) (hS : S w) (h : RH P f N ops S fuel (listed.setIfInBounds i true) k ((d, undef) :: F) w R) : RH P f N ops S (fuel + 1) listed k F w R := by
 intro a ha
 simp only [Bool.and_eq_true] at hs
 have hw : Region.wanted oi (yielded ops a.tmps) = false := by
  simp only [Region.wanted, hg, yielded_of ha hj hb]
  simpa using hne
 refine wpAnyH_take hi hs.1.1 hs.1.2 hs.2 (fun _ _ _ h => qk_put h) (v := undef) (.inr ⟨hw, rfl⟩) hS ?_
 rw [hd]
 exact h _ (ha.put (lt_of_blt hN) undef)
theorem rh_done (hr : (Region.ready .any ops listed).isEmpty = true) (h : Run P f N k F w R) : RH P f N ops S fuel listed k F w R := by
 intro a ha
 exact wpAnyH_done (by simpa using hr) (h a ha) fuel
def OpW (P : Program) (N : Nat) (o : Oper) (F : Fr) (w : World) (Post : Fr → World → Prop) : Prop :=
 ∀ a, Holds N F a → ∀ (K : Act → World → Prop) (Q : Exit → Act → World → Prop), (∀ F' a' w', Post F' w' → Holds N F' a' → K a' w') → o.wp P a w K Q
theorem rl_ow {Post : Fr → World → Prop} (hg : o.guard = none) (hw : OpW P N o F w Post) (h : ∀ F' w', Post F' w' → RL P f N ops rest k F' w' R) : RL P f N ops (o :: rest) k F w R := by
 intro a ha
 exact wpList_plain hg fun K hK => hw a ha K _ fun F' a' w' hp ha' => hK _ _ (h F' w' hp a' ha')
def wpAnyH' (P : Program) (ops : Array Oper) (Q : Exit → Act → World → Prop) (S : World → Prop) (fuel : Nat) (listed : Array Bool) (a : Act) (w : World) : Prop := S w ∧ wpAnyH P .any ops Q S fuel listed a w
theorem rh_op {oi : Oper} {i : Nat} {Post : Fr → World → Prop} (hi : ops[i]? = some oi) (hg : oi.guard = none) (hw : OpW P N oi F w Post)
  (h : ∀ F' w', Post F' w' → S w' ∧ RH P f N ops S fuel (listed.setIfInBounds i true) k F' w' R) {a : Act} (ha : Holds N F a) :
  wpOp P ops (QK P f k R) i (wpAnyH' P ops (QK P f k R) S fuel (listed.setIfInBounds i true)) a w := by
 unfold wpOp
 rw [hi]
 simp only [Region.wanted, hg, if_true]
 exact .inl (hw a ha _ _ fun F' a' w' hp ha' => ⟨(h F' w' hp).1, (h F' w' hp).2 a' ha'⟩)
def RC (P : Program) (f N : Nat) (ops : Array Oper) (S : World → Prop) (fuel : Nat) (listed : Array Bool) (k : List Item) (i : Nat) (F : Fr) (w : World) (R : Ending → World → Prop) : Prop :=
 ∀ a, Holds N F a → wpOp P ops (QK P f k R) i (wpAnyH' P ops (QK P f k R) S fuel (listed.setIfInBounds i true)) a w
theorem rc_op {oi : Oper} {i : Nat} {Post : Fr → World → Prop} (hi : ops[i]? = some oi) (hg : oi.guard = none) (hw : OpW P N oi F w Post)
  (h : ∀ F' w', Post F' w' → S w' ∧ RH P f N ops S fuel (listed.setIfInBounds i true) k F' w' R) : RC P f N ops S fuel listed k i F w R :=
 fun _ ha => rh_op hi hg hw h ha
theorem rh_any1 (i : Nat) (hr : Region.ready .any ops listed = [i]) (h : RC P f N ops S fuel listed k i F w R) : RH P f N ops S (fuel + 1) listed k F w R := by
 intro a ha
 refine wpAnyH_all hr (by simp) fun j hj => ?_
 obtain rfl : j = i := by simpa using hj
 exact h a ha
theorem rh_any2 (i j : Nat) (hr : Region.ready .any ops listed = [i, j]) (h1 : RC P f N ops S fuel listed k i F w R) (h2 : RC P f N ops S fuel listed k j F w R) : RH P f N ops S (fuel + 1) listed k F w R := by
 intro a ha
 refine wpAnyH_all hr (by simp) fun q hq => ?_
 rcases List.mem_cons.1 hq with rfl | hq
 ·exact h1 a ha
 ·obtain rfl : q = j := by simpa using hq
  exact h2 a ha
theorem ow_w {d : Nat} {v : Value} {w' : World} (hd : o.dst = some d) (hN : Nat.blt d N = true) (hv : ∀ a, Holds N F a → (execOp a.eval o).run P w = .ok (.value v) w') : OpW P N o F w (fun F' w'' => F' = (d, v) :: F ∧ w'' = w') := by
 intro a ha K Q hK
 unfold Oper.wp
 rw [hv a ha]
 show K (a.put o.dst v) w'
 rw [hd]
 exact hK _ _ _ ⟨rfl, rfl⟩ (ha.put (lt_of_blt hN) v)
theorem OpW.mono {Post Post' : Fr → World → Prop} (h : OpW P N o F w Post) (hp : ∀ F' w', Post F' w' → Post' F' w') : OpW P N o F w Post' :=
 fun a ha K Q hK => h a ha K Q fun F' a' w' h1 h2 => hK F' a' w' (hp _ _ h1) h2
theorem ow_v {d : Nat} {v : Value} (hd : o.dst = some d) (hN : Nat.blt d N = true) (hv : OpV P N o F w v) : OpW P N o F w (fun F' w'' => F' = (d, v) :: F ∧ w'' = w) := ow_w hd hN hv
theorem ow_store {T : TypeId} {p x : Operand} {b : Nat} {t : TypeId} {n : Nat} {G : Int → Value} {i : Int} {v : Value} (hd : o.dst = none) (ho : o.op = .store T p x) (hi : (P.info? T).map (·.size) = some 1)
  (hO : Own B w0 w H) (kk : Nat) (hk : H[kk]? = some (some (vch b t n G))) (hp : Fr.ev F p = some (.pointer (some ⟨b, 0 + i.toNat, none⟩))) (hb : 0 ≤ i ∧ i < n) (hx : Fr.ev F x = some v) (h1 : v.oneCell' = true) :
  OpW P N o F w (fun F' w' => F' = F ∧ Own B w0 w' (H.set kk (some (vch b t n (upd G i v)))) ∧ w'.heap.size = w.heap.size) := by
 intro a ha K Q hK
 have hfr := (hO.get kk hk).frozen (0 + i.toNat)
 have hrun := run_storeAt_one (P := P) w b (0 + i.toNat) T v _ (hO.cellI kk hk i hb.1 hb.2) hfr hi h1
 unfold Oper.wp execOp
 simp only [ho, ha.ev hp, ha.ev hx, Sem.run_bind, hrun, Result.andThen_ok, Sem.run_pure]
 show K (a.put o.dst undef) _
 rw [hd]
 exact hK F _ _ ⟨rfl, hO.storeI kk hk i hb.1 v, by simp⟩ ha
theorem ow_storeI {T : TypeId} {p x : Operand} {b : Nat} {t : TypeId} {n : Nat} {g : Int → Int} {i e : Int} (hd : o.dst = none) (ho : o.op = .store T p x) (hi : (P.info? T).map (·.size) = some 1)
  (hO : Own B w0 w H) (kk : Nat) (hk : H[kk]? = some (some (vch b t n (fun j => .int .i64 (g j))))) (hp : Fr.ev F p = some (.pointer (some ⟨b, 0 + i.toNat, none⟩))) (hb : 0 ≤ i ∧ i < n) (hx : Fr.ev F x = some (.int .i64 e)) :
  OpW P N o F w (fun F' w' => F' = F ∧ Own B w0 w' (H.set kk (some (vch b t n (fun j => .int .i64 (upd g i e j))))) ∧ w'.heap.size = w.heap.size) := by
 have := ow_store (P := P) (N := N) hd ho hi hO kk hk hp hb hx rfl
 rwa [updI] at this
theorem ow_make {T E : TypeId} {l c : Operand} {z : Value} {by_ : Nat} {k1 k2 : IntKind} {i j : Int} {d : Nat} (n : Nat) (hd : o.dst = some d) (hN : Nat.blt d N = true) (ho : o.op = .makeSlice T l c)
  (hT : P.underlying T = some (.slice E)) (hinfo : (P.info? E).map (fun i => (i.zero, i.size, i.bytes)) = some (some z, 1, by_)) (hz : z.cells = #[z])
  (hO : Own B w0 w H) (hl : Fr.ev F l = some (.int k1 i)) (hc : Fr.ev F c = some (.int k2 j)) (hi : i = n) (hj : j = n) (hb : by_ * n ≤ 281474976710656 ∧ n ≤ 9223372036854775807) :
  OpW P N o F w (fun F' w' => ∃ b, F' = (d, .slice (some ⟨b, 0, none⟩) n n) :: F ∧ Own B w0 w' (some (vch b E n (fun _ => z)) :: H) ∧ Below w.heap.size w w') := by
 subst hi; subst hj
 refine (ow_w (w' := w.alloc (.cells (madeCells #[z] n) E)) hd hN (fun a ha => ?_)).mono fun F' w' ⟨h1, h2⟩ => ⟨w.heap.size, h1, by rw [h2]; exact hO.cons_made z n E, by rw [h2]; exact (Below.refl _ _).alloc (Nat.le_refl _) _⟩
 have hrun := run_make_row' (P := P) T E z by_ hT hinfo hz k1 k2 n hb.1 hb.2 w
 unfold execOp
 simp only [ho, ha.ev hl, ha.ev hc, Sem.run_bind, hrun, Result.andThen_ok, Sem.run_pure]
theorem ow_one {T E : TypeId} {x : Operand} {d : Nat} {z xv : Value} {by_ : Nat} (hd : o.dst = some d) (hN : Nat.blt d N = true) (ho : o.op = .buildSlice T 1 #[(0, x)])
  (hT : P.underlying T = some (.slice E)) (hinfo : (P.info? E).map (fun i => (i.zero, i.size, i.bytes)) = some (some z, 1, by_)) (_ : z.cells = #[z]) (hO : Own B w0 w H) (hx : Fr.ev F x = some xv) (hx1 : xv.oneCell' = true) :
  OpW P N o F w (fun F' w' => ∃ b, F' = (d, .slice (some ⟨b, 0, none⟩) 1 1) :: F ∧ Own B w0 w' (some (vch b E 1 (fun _ => xv)) :: H) ∧ Below w.heap.size w w') := by
 obtain ⟨i, hi, hz0, hsz, hby⟩ := info_parts hinfo
 have hxc : xv.cells = #[xv] := by cases xv <;> simp_all [Value.oneCell', Value.cells]
 refine (ow_w (v := .slice (some ⟨w.heap.size, 0, none⟩) 1 1) (w' := w.alloc (.cells #[xv] E)) hd hN (fun a ha => ?_)).mono fun F' w' ⟨h1, h2⟩ => ⟨w.heap.size, h1, ?_, by rw [h2]; exact (Below.refl _ _).alloc (Nat.le_refl _) _⟩
 ·unfold execOp
  rw [ho]
  simp [Instr.buildSlice, run_underlying hT, sizeOf, typeInfo, zeroValue, hi, hz0, hsz, ha.ev hx, Instr.fill, hxc, newRow, Result.andThen, Array.range_succ, Array.range_zero']
 ·rw [h2]
  exact hO.alloc #[xv] E 1 (fun _ => xv) rfl (fun i hi => by
   obtain rfl : i = 0 := by omega
   rfl)
theorem ow_appS {T E : TypeId} {s y : Operand} {d : Nat} {z v : Value} {by_ n m cp B' : Nat} {ao : Option Addr} {G G2 : Int → Value} {c : Option Blk} (hd : o.dst = some d) (hN : Nat.blt d N = true)
  (ho : o.op = .call { callee := .builtin .append, args := #[s, y], argTypes := #[T, T] })
  (hT : P.underlying T = some (.slice E)) (hinfo : (P.info? E).map (fun i => (i.zero, i.size, i.bytes)) = some (some z, 1, by_)) (hz : z.cells = #[z])
  (hO : Own B w0 w H) (kk : Nat) (hr : IRow v E n G c) (hk : H[kk]? = some c) (hs : Fr.ev F s = some v) (hy : Fr.ev F y = some (.slice ao m cp)) (hsrc : IAt B' w ao m G2) (h1 : ∀ j, (G2 j).oneCell' = true)
  (hb : n + m ≤ 9223372036854775807 ∧ (n + m) * by_ ≤ 140737488355328) :
  OpW P N o F w (fun F' w' => ∃ v' c', F' = (d, v') :: F ∧ Own B w0 w' (H.set kk c') ∧ IRow v' E (n + m) (joinF G n G2) c' ∧ w.heap.size ≤ w'.heap.size) := by
 obtain ⟨i, hi, hz0, hsz, hby⟩ := info_parts hinfo
 obtain ⟨v', c', w', hrun, h2, h3, h4⟩ := run_appS (P := P) (ty := o.type) (cp := cp) hT hi hz0 hsz (by simp [hz]) kk hO hk hr hsrc h1 (by unfold maxLen; omega) (by rw [hby]; exact hb.2)
 refine (ow_w (v := v') (w' := w') hd hN (fun a ha => ?_)).mono fun F' w'' ⟨e1, e2⟩ => ⟨v', c', e1, by rw [e2]; exact h2, h4, by rw [e2]; exact h3⟩
 obtain ⟨cs, he⟩ := execOp_bi a.eval .append [s, y] #[T, T] ho
 rw [he]
 simp [builtin, ha.ev hs, ha.ev hy, hrun, Result.andThen]
theorem ow_call {fo : Operand} {xs : Array Operand} {ats : Array TypeId} {g : FuncId} {cap : Array Value} {vs : List Value} {d : Nat} {Post : Ending → World → Prop} {Post' : Value → World → Prop} (hcl : Callable P g) (hd : o.dst = some d) (hN : Nat.blt d N = true)
  (ho : o.op = .call { callee := .value fo, args := xs, argTypes := ats }) (hf : Fr.ev F fo = some (.func (.func g) #[] cap)) (hx : Fr.evs F xs.toList = some vs)
  (hC : Calls P g (vs.toArray ++ cap) w Post) (h : ∀ e w', Post e w' → ∃ v, e = .returned v ∧ Post' v w') : OpW P N o F w (fun F' w' => ∃ v, F' = (d, v) :: F ∧ Post' v w') := by
 intro a ha K Q hK
 have hargs : xs.map a.eval = vs.toArray := by
  apply Array.ext'
  simpa using ha.evs hx
 have hrun : (execOp a.eval o).run P w = .ok (.enter g (vs.toArray ++ cap)) w := by
  unfold execOp
  simp only [ho, resolve, Sem.run_bind, Deferred.ofValue, ha.ev hf, hargs]
  simp [invoke, Result.andThen, run_callFunc hcl]
 unfold Oper.wp
 rw [hrun]
 refine hC.mono fun e w' hp => ?_
 obtain ⟨v, rfl, hv⟩ := h e w' hp
 show K (a.put o.dst v) w'
 rw [hd]
 exact hK _ _ _ ⟨v, rfl, hv⟩ (ha.put (lt_of_blt hN) v)
theorem ow_call2 {fo : Operand} {xs : Array Operand} {ats : Array TypeId} {g : FuncId} {cap : Array Value} {vs : List Value} {d : Nat} {Post : Ending → World → Prop} (hcl : Callable P g) (hd : o.dst = some d) (hN : Nat.blt d N = true)
  (ho : o.op = .call { callee := .value fo, args := xs, argTypes := ats }) (hf : Fr.ev F fo = some (.func (.func g) #[] cap)) (hx : Fr.evs F xs.toList = some vs)
  (hC : Calls P g (vs.toArray ++ cap) w Post) (h : ∀ e w', Post e w' → ∃ v, e = .returned v) : OpW P N o F w (fun F' w' => ∃ e v, e = .returned v ∧ F' = (d, v) :: F ∧ Post e w') :=
 (ow_call hcl hd hN ho hf hx hC (Post' := fun v w' => Post (.returned v) w') fun e w' hp => by
  obtain ⟨v, rfl⟩ := h e w' hp
  exact ⟨v, rfl, hp⟩).mono fun F' w' ⟨v, h1, h2⟩ => ⟨_, v, rfl, h1, h2⟩
end
end Go.Proofs.YtbcjfjldmfljgaaGreat
