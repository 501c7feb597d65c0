import Derived.Test.YtbcjfjldmfljgaaGreatEng
namespace Go.Proofs.YtbcjfjldmfljgaaGreat
open Go.RowKit
def upd {α : Type} (g : Int → α) (i : Int) (x : α) : Int → α := fun j => if j = i then x else g j
@[simp] theorem upd_same {α : Type} (g : Int → α) (i : Int) (x : α) : upd g i x i = x := by simp [upd]
theorem upd_ne {α : Type} (g : Int → α) {i j : Int} (x : α) (h : j ≠ i) : upd g i x j = g j := by simp [upd, h]
def vch (b : Nat) (t : TypeId) (n : Nat) (G : Int → Value) : Blk := ⟨b, t, n, fun j => G (j : Int), none⟩
def IAt (B : Nat) (w : World) (ao : Option Addr) (n : Nat) (G : Int → Value) : Prop := RAt B w ao n (fun j => G (j : Int))
theorem IAt.open {w : World} {ao : Option Addr} {n : Nat} {B : Nat} {G : Int → Value} (h : IAt B w ao n G) :
  ∃ b off, (0 < n → ao = some ⟨b, off, none⟩) ∧ ∀ w', Below B w w' → ∀ i : Int, 0 ≤ i → i < n → w'.cell? ⟨b, off + i.toNat, none⟩ = some (G i) := by
 obtain ⟨b, off, h1, h2, h3⟩ := h
 refine ⟨b, off, h1, fun w' hb i h0 hi => ?_⟩
 rw [hb.cell (p := ⟨b, off + i.toNat, none⟩) (h2 (by omega)), h3 _ (by omega)]
 simp only [Int.toNat_of_nonneg h0]
theorem Own.cellI {B : Nat} {w0 w : World} {H : List (Option Blk)} (h : Own B w0 w H) (k : Nat) {b : Nat} {t : TypeId} {n : Nat} {G : Int → Value} (hk : H[k]? = some (some (vch b t n G))) (i : Int) (h0 : 0 ≤ i) (hi : i < n) :
  w.cell? ⟨b, 0 + i.toNat, none⟩ = some (G i) := by
 have := h.cell k hk i.toNat (by show i.toNat < n; omega)
 rw [Nat.zero_add]
 simpa only [vch, Int.toNat_of_nonneg h0] using this
def IRow (v : Value) (E : TypeId) (n : Nat) (G : Int → Value) (c : Option Blk) : Prop := Row v E 1 n (fun j => G (j : Int)) c
theorem IRow.nil (E : TypeId) (G : Int → Value) : IRow (.slice none 0 0) E 0 G none := Row.nil _ _ _
theorem IRow.congr {v : Value} {E : TypeId} {n : Nat} {G G' : Int → Value} {c : Option Blk} (h : IRow v E n G c) (e : ∀ i : Int, 0 ≤ i → i < n → G i = G' i) : IRow v E n G' c :=
 Row.congr h fun i hi => e i (by omega) (by omega)
theorem IRow.open {v : Value} {E : TypeId} {n : Nat} {G : Int → Value} {c : Option Blk} {B : Nat} {w0 w : World} {H : List (Option Blk)} (h : IRow v E n G c) (ho : Own B w0 w H) (k : Nat) (hk : H[k]? = some c) :
  ∃ ao cap b, v = .slice ao n cap ∧ (0 < n → ao = some ⟨b, 0, none⟩) ∧ ∀ i : Int, 0 ≤ i → i < n → w.cell? ⟨b, 0 + i.toNat, none⟩ = some (G i) := by
 rcases h with ⟨rfl, rfl, rfl⟩ | ⟨b, cap, g, rfl, h2, h3, rfl, h5⟩
 ·exact ⟨none, 0, 0, rfl, fun h => absurd h (Nat.lt_irrefl _), fun i h0 hi => by omega⟩
 ·refine ⟨_, cap, b, rfl, fun _ => rfl, fun i h0 hi => ?_⟩
  have := ho.cell k hk i.toNat (by show i.toNat < cap * 1; omega)
  rw [Nat.zero_add]
  dsimp only at this
  rw [this, h5 _ (by omega)]
  simp only [Int.toNat_of_nonneg h0]
theorem IRow.reads {B : Nat} {w0 w : World} {H : List (Option Blk)} {ao : Option Addr} {E : TypeId} {n m cap : Nat} {G : Int → Value} {c : Option Blk}
  (h : IRow (.slice ao m cap) E n G c) (ho : Own B w0 w H) (k : Nat) (hk : H[k]? = some c) : IAt w.heap.size w ao n G := Row.reads h ho k hk
theorem Own.storeI {B : Nat} {w0 w : World} {H : List (Option Blk)} (h : Own B w0 w H) (k : Nat) {b : Nat} {t : TypeId} {n : Nat} {G : Int → Value} (hk : H[k]? = some (some (vch b t n G))) (i : Int) (h0 : 0 ≤ i) (v : Value) :
  Own B w0 (w.setCell ⟨b, 0 + i.toNat, none⟩ v) (H.set k (some (vch b t n (upd G i v)))) := by
 have := h.store k hk i.toNat v
 rw [Nat.zero_add]
 have e : (vch b t n G).put i.toNat v = vch b t n (upd G i v) := by
  unfold Blk.put vch
  congr 1
  funext j
  simp only [upd]
  by_cases e : j = i.toNat
  ·rw [if_pos e, if_pos (by omega)]
  ·rw [if_neg e, if_neg (by omega)]
 rw [e] at this
 exact this
section
variable {P : Program} {N : Nat} {o : Oper} {F : Fr} {w : World}
theorem ov_move {x : Operand} {v : Value} (ho : o.op = .move x) (hx : Fr.ev F x = some v) : OpV P N o F w v := by
 intro a ha; unfold execOp; rw [ho]; simp [ha.ev hx]
theorem ov_assign {x : Operand} {v : Value} (ho : o.op = .assign x) (hx : Fr.ev F x = some v) : OpV P N o F w v := by
 intro a ha; unfold execOp; rw [ho]; simp [ha.ev hx]
theorem execOp_bi (ρ : Operand → Value) (b : Builtin) (xs : List Operand) (ats : Array TypeId) (ho : o.op = .call { callee := .builtin b, args := xs.toArray, argTypes := ats }) :
  ∃ cs, execOp ρ o = builtin b ats o.type cs ((xs.map ρ).toArray) := by
 cases o
 simp only at ho
 subst ho
 have e : xs.toArray.map ρ = (xs.map ρ).toArray := by simp
 exact ⟨_, by rw [BigFrame.execOp_builtin, e]⟩
theorem ov_len {x : Operand} {T E : TypeId} {ao : Option Addr} {n c : Nat} (ho : o.op = .call { callee := .builtin .len, args := #[x], argTypes := #[T] }) (hT : P.underlying T = some (.slice E)) (hx : Fr.ev F x = some (.slice ao n c)) :
  OpV P N o F w (.int .i64 n) := by
 intro a ha
 obtain ⟨cs, he⟩ := execOp_bi a.eval .len [x] #[T] ho
 rw [he]
 simp [builtin, Builtin.len_, run_underlying hT, ha.ev hx, goInt, Result.andThen]
theorem ov_min {x y : Operand} {T U : TypeId} {k k' : IntKind} {m n : Int} (ho : o.op = .call { callee := .builtin .min, args := #[x, y], argTypes := #[T, U] }) (hx : Fr.ev F x = some (.int k m)) (hy : Fr.ev F y = some (.int k' n)) :
  OpV P N o F w (.int k (min m n)) := by
 intro a ha
 obtain ⟨cs, he⟩ := execOp_bi a.eval .min [x, y] #[T, U] ho
 rw [he]
 have e : (if n < m then n else m) = min m n := by simp only [Int.min_def]; split <;> split <;> omega
 simp [builtin, Builtin.min_, Builtin.min2, ha.ev hx, ha.ev hy, e]
theorem ov_max {x y : Operand} {T U : TypeId} {k k' : IntKind} {m n : Int} (ho : o.op = .call { callee := .builtin .max, args := #[x, y], argTypes := #[T, U] }) (hx : Fr.ev F x = some (.int k m)) (hy : Fr.ev F y = some (.int k' n)) :
  OpV P N o F w (.int k (max m n)) := by
 intro a ha
 obtain ⟨cs, he⟩ := execOp_bi a.eval .max [x, y] #[T, U] ho
 rw [he]
 have e : (if m < n then n else m) = max m n := by simp only [Int.max_def]; split <;> split <;> omega
 simp [builtin, Builtin.max_, Builtin.max2, ha.ev hx, ha.ev hy, e]
theorem run_eqGuard_int (op : BinOp) (T : TypeId) (x y : Operand) (k k' : IntKind) (m n : Int) (w : World) : (eqGuard op T x y (.int k m) (.int k' n)).run P w = .ok () w := by
 unfold eqGuard
 cases op <;> simp
theorem ov_bin {op : BinOp} {T U : TypeId} {x y : Operand} {k k' : IntKind} {m n : Int} {v : Value} (ho : o.op = .binOp op T x y U) (hx : Fr.ev F x = some (.int k m)) (hy : Fr.ev F y = some (.int k' n))
  (h : (binOp op T (.int k m) (.int k' n)).run P w = .ok v w) : OpV P N o F w v := by
 intro a ha
 unfold execOp
 simp only [ho, ha.ev hx, ha.ev hy, Sem.run_bind, run_eqGuard_int, Result.andThen_ok, h, Sem.run_pure]
section
variable {T U : TypeId} {x y : Operand} {k : IntKind} {m n : Int}
theorem ov_lss (ho : o.op = .binOp .lss T x y U) (hx : Fr.ev F x = some (.int k m)) (hy : Fr.ev F y = some (.int k n)) : OpV P N o F w (.bool (decide (m < n))) := ov_bin ho hx hy (by simp [binOp, Op.intCmp])
theorem ov_leq (ho : o.op = .binOp .leq T x y U) (hx : Fr.ev F x = some (.int k m)) (hy : Fr.ev F y = some (.int k n)) : OpV P N o F w (.bool (decide (m ≤ n))) := ov_bin ho hx hy (by simp [binOp, Op.intCmp])
theorem ov_gtr (ho : o.op = .binOp .gtr T x y U) (hx : Fr.ev F x = some (.int k m)) (hy : Fr.ev F y = some (.int k n)) : OpV P N o F w (.bool (decide (n < m))) := ov_bin ho hx hy (by simp [binOp, Op.intCmp])
theorem ov_geq (ho : o.op = .binOp .geq T x y U) (hx : Fr.ev F x = some (.int k m)) (hy : Fr.ev F y = some (.int k n)) : OpV P N o F w (.bool (decide (n ≤ m))) := ov_bin ho hx hy (by simp [binOp, Op.intCmp])
theorem ov_eql (ho : o.op = .binOp .eql T x y U) (hx : Fr.ev F x = some (.int k m)) (hy : Fr.ev F y = some (.int k n)) : OpV P N o F w (.bool (decide (m = n))) := ov_bin ho hx hy (by
 have e : (m == n) = decide (m = n) := by by_cases h : m = n <;> simp [h]
 simp [binOp, Op.intCmp, e])
theorem ov_neq (ho : o.op = .binOp .neq T x y U) (hx : Fr.ev F x = some (.int k m)) (hy : Fr.ev F y = some (.int k n)) : OpV P N o F w (.bool (decide (m ≠ n))) := ov_bin ho hx hy (by
 have e : (m != n) = decide (m ≠ n) := by by_cases h : m = n <;> simp [h]
 simp [binOp, Op.intCmp, e])
theorem ov_addw (ho : o.op = .binOp .add T x y U) (hx : Fr.ev F x = some (.int k m)) (hy : Fr.ev F y = some (.int k n)) : OpV P N o F w (.int k (k.wrap (m + n))) := ov_bin ho hx hy (by simp [binOp, Op.intArith])
theorem ov_subw (ho : o.op = .binOp .sub T x y U) (hx : Fr.ev F x = some (.int k m)) (hy : Fr.ev F y = some (.int k n)) : OpV P N o F w (.int k (k.wrap (m - n))) := ov_bin ho hx hy (by simp [binOp, Op.intArith])
theorem ov_mulw (ho : o.op = .binOp .mul T x y U) (hx : Fr.ev F x = some (.int k m)) (hy : Fr.ev F y = some (.int k n)) : OpV P N o F w (.int k (k.wrap (m * n))) := ov_bin ho hx hy (by simp [binOp, Op.intArith])
theorem ov_add (ho : o.op = .binOp .add T x y U) (hx : Fr.ev F x = some (.int .i64 m)) (hy : Fr.ev F y = some (.int .i64 n)) (hr : -9223372036854775808 ≤ m + n ∧ m + n ≤ 9223372036854775807) : OpV P N o F w (.int .i64 (m + n)) := by
 have := ov_addw (P := P) (N := N) (w := w) ho hx hy
 rwa [IntWalk.i64_in _ hr] at this
theorem ov_sub (ho : o.op = .binOp .sub T x y U) (hx : Fr.ev F x = some (.int .i64 m)) (hy : Fr.ev F y = some (.int .i64 n)) (hr : -9223372036854775808 ≤ m - n ∧ m - n ≤ 9223372036854775807) : OpV P N o F w (.int .i64 (m - n)) := by
 have := ov_subw (P := P) (N := N) (w := w) ho hx hy
 rwa [IntWalk.i64_in _ hr] at this
theorem ov_mul (ho : o.op = .binOp .mul T x y U) (hx : Fr.ev F x = some (.int .i64 m)) (hy : Fr.ev F y = some (.int .i64 n)) (hr : -9223372036854775808 ≤ m * n ∧ m * n ≤ 9223372036854775807) : OpV P N o F w (.int .i64 (m * n)) := by
 have := ov_mulw (P := P) (N := N) (w := w) ho hx hy
 rwa [IntWalk.i64_in _ hr] at this
theorem ov_rem (ho : o.op = .binOp .rem T x y U) (hx : Fr.ev F x = some (.int k m)) (hy : Fr.ev F y = some (.int k n)) (hm : 0 ≤ m) (hn : n ≠ 0) : OpV P N o F w (.int k (m % n)) := by
 refine ov_bin ho hx hy ?_
 have h1 : m.tmod n = m % n := Int.tmod_eq_emod_of_nonneg hm
 simp [binOp, Op.intDiv, hn, h1]
end
theorem ov_conv {S T : TypeId} {x : Operand} {k k' : IntKind} {n : Int} {ds : TypeDesc} (ho : o.op = .convert S T x) (hS : P.underlying S = some ds) (hT : P.underlying T = some (.int k)) (hx : Fr.ev F x = some (.int k' n)) : OpV P N o F w (.int k (k.wrap n)) := by
 intro a ha
 unfold execOp
 rw [ho]
 cases ds <;> simp [convert, run_underlying hS, run_underlying hT, ha.ev hx, Conv.intToInt, Result.andThen]
theorem ov_not {T : TypeId} {x : Operand} {b : Bool} (ho : o.op = .unOp .not T x) (hx : Fr.ev F x = some (.bool b)) : OpV P N o F w (.bool (!b)) := by
 intro a ha; unfold execOp; rw [ho]; simp [Op.unary, ha.ev hx]
theorem ov_neg {T : TypeId} {x : Operand} {n : Int} (ho : o.op = .unOp .neg T x) (hx : Fr.ev F x = some (.int .i64 n)) (hr : -9223372036854775808 ≤ -n ∧ -n ≤ 9223372036854775807) : OpV P N o F w (.int .i64 (-n)) := by
 intro a ha; unfold execOp; rw [ho]
 have e : IntKind.i64.wrap (0 - n) = -n := by rw [IntWalk.i64_in _ (by omega)]; omega
 simp [Op.unary, Op.intArith, ha.ev hx]
 simpa using e
theorem ov_pick_t {c x y : Operand} {v : Value} (ho : o.op = .pick c x y) (hc : Fr.ev F c = some (.bool true)) (hx : Fr.ev F x = some v) : OpV P N o F w v := by
 intro a ha; unfold execOp; rw [ho]; simp [asBool, ha.ev hc, ha.ev hx]
theorem ov_pick_f {c x y : Operand} {v : Value} (ho : o.op = .pick c x y) (hc : Fr.ev F c = some (.bool false)) (hx : Fr.ev F y = some v) : OpV P N o F w v := by
 intro a ha; unfold execOp; rw [ho]; simp [asBool, ha.ev hc, ha.ev hx]
theorem ov_extract {x : Operand} {i : Nat} {vs : Array Value} {v : Value} (ho : o.op = .extract x i) (hx : Fr.ev F x = some (.tuple vs)) (hv : vs[i]? = some v) : OpV P N o F w v := by
 intro a ha; unfold execOp; rw [ho]; simp [Instr.extract, ha.ev hx, hv]
theorem ov_nil {x : Operand} {ad : Addr} (ho : o.op = .nilCheck x) (hx : Fr.ev F x = some (.pointer (some ad))) : OpV P N o F w (.pointer (some ad)) := by
 intro a ha; unfold execOp; rw [ho]; simp [ha.ev hx]
theorem ov_index {T E : TypeId} {x ix : Operand} {ao : Option Addr} {b off n c s : Nat} {k : IntKind} {i : Int} (ho : o.op = .indexAddr T x ix) (hT : P.underlying T = some (.slice E)) (hs : (P.info? E).map (·.size) = some s)
  (hx : Fr.ev F x = some (.slice ao n c)) (hi : Fr.ev F ix = some (.int k i)) (hb : 0 ≤ i ∧ i < n) (hao : ao = some ⟨b, off, none⟩) : OpV P N o F w (.pointer (some ⟨b, off + i.toNat * s, none⟩)) := by
 intro a ha
 subst hao
 unfold execOp
 rw [ho]
 cases hq : P.info? E with
 | none => simp [hq] at hs
 | some q =>
  have hs' : q.size = s := by simpa [hq] using hs
  simp [Instr.indexAt, asIntOf, run_underlying hT, ha.ev hx, ha.ev hi, Result.andThen, hb, sizeOf, typeInfo, hq, hs']
  unfold Addr.add; split <;> simp_all
theorem ov_index1 {T E : TypeId} {x ix : Operand} {ao : Option Addr} {b off n c : Nat} {k : IntKind} {i : Int} (ho : o.op = .indexAddr T x ix) (hT : P.underlying T = some (.slice E)) (hs : (P.info? E).map (·.size) = some 1)
  (hx : Fr.ev F x = some (.slice ao n c)) (hi : Fr.ev F ix = some (.int k i)) (hb : 0 ≤ i ∧ i < n) (hao : ao = some ⟨b, off, none⟩) : OpV P N o F w (.pointer (some ⟨b, off + i.toNat, none⟩)) := by
 have := ov_index (P := P) (N := N) (w := w) ho hT hs hx hi hb hao
 rwa [Nat.mul_one] at this
theorem ov_field {T : TypeId} {x : Operand} {fi : Nat} {b off : Nat} {fs : Array Field} {q : Field} {fo : Nat} (ho : o.op = .fieldAddr T x fi) (hT : P.underlying T = some (.struct fs)) (hq : fs[fi]? = some q) (_ : q.offset = fo)
  (hplace : ∀ w : World, (fieldPlace ⟨b, off, none⟩ q).run P w = .ok ⟨b, off + fo, none⟩ w) (hx : Fr.ev F x = some (.pointer (some ⟨b, off, none⟩))) : OpV P N o F w (.pointer (some ⟨b, off + fo, none⟩)) := by
 intro a ha
 unfold execOp
 rw [ho]
 simp [Instr.fieldAt, Instr.sureAddr, run_underlying hT, hq, ha.ev hx, Result.andThen, hplace w]
theorem ov_load {T : TypeId} {x : Operand} {ad : Addr} {dd : TypeDesc} {v : Value} (ho : o.op = .load T x) (hT : P.underlying T = some dd) (hd : dd.isRow = false) (hx : Fr.ev F x = some (.pointer (some ad))) (hc : w.cell? ad = some v) : OpV P N o F w v := by
 intro a ha
 have hagg : (isAgg T).run P w = .ok false w := by
  unfold isAgg
  rw [Sem.run_bind, run_underlying hT w]
  cases dd <;> simp_all
 unfold execOp
 rw [ho]
 simp [Instr.loadAt, Instr.sureAddr, loadVar, ha.ev hx, hagg, Result.andThen, hc]
theorem ov_loadN {T : TypeId} {x : Operand} {b off : Nat} {dd : TypeDesc} {cs : List Value} (ho : o.op = .load T x) (hT : P.underlying T = some dd) (hd : dd.isRow = true) (hi : (P.info? T).map (·.size) = some cs.length)
  (hx : Fr.ev F x = some (.pointer (some ⟨b, off, none⟩))) (hc : w.rangeAt b off cs) : OpV P N o F w (.agg cs.toArray) := by
 intro a ha
 unfold execOp
 rw [ho]
 simp [ha.ev hx, run_loadAt_mid w b off T cs dd hc hT hd hi, Result.andThen]
theorem ov_func {fn : Fn} {first captured : Array Operand} {vs us : List Value} (ho : o.op = .makeFunc fn first captured) (h1 : Fr.evs F first.toList = some vs) (h2 : Fr.evs F captured.toList = some us) : OpV P N o F w (.func fn vs.toArray us.toArray) := by
 intro a ha
 have e1 := ha.evs h1
 have e2 := ha.evs h2
 unfold execOp
 rw [ho]
 have f1 : first.map a.eval = vs.toArray := by apply Array.ext'; simpa using e1
 have f2 : captured.map a.eval = us.toArray := by apply Array.ext'; simpa using e2
 simp [Instr.makeFunc, f1, f2]
theorem ov_sliceH {T E : TypeId} {x h : Operand} {ao : Option Addr} {n c : Nat} {k2 : IntKind} {j : Int} {s : Nat} (m : Nat) (ho : o.op = .slice T x none (some h) none) (hT : P.underlying T = some (.slice E)) (hs : (P.info? E).map (·.size) = some s)
  (hx : Fr.ev F x = some (.slice ao n c)) (hh : Fr.ev F h = some (.int k2 j)) (hj : j = m) (hb : m ≤ c) : OpV P N o F w (.slice ao m c) := by
 intro a ha
 subst hj
 cases hq : P.info? E with
 | none => simp [hq] at hs
 | some q =>
  unfold execOp
  rw [ho]
  have e : ∀ ad : Addr, ad.add 0 = ad := fun ad => by unfold Addr.add; simp
  have e2 : (fun x : Addr => x.add 0) = id := funext e
  simp [Instr.sliceAt, Instr.slice, Instr.sliceBounds, Instr.sliceBound, asIntOf, run_underlying hT, ha.ev hx, ha.ev hh, Result.andThen, hb, sizeOf, typeInfo, hq, e2]
end
end Go.Proofs.YtbcjfjldmfljgaaGreat
