import Derived.Test.YtbcjfjldmfljgaaGreatFacts
import Derived.Scope
set_option maxRecDepth 100000
namespace Go.Proofs.YtbcjfjldmfljgaaGreat
open Go.RowKit Go.Proofs
theorem nat_and32 (a : Nat) : a &&& 4294967295 = a % 4294967296 := by
 have := Nat.and_two_pow_sub_one_eq_mod a 32
 simpa using this
theorem u64_and32 (m : Int) (h : 0 ≤ m) (h2 : m < 18446744073709551616) : IntKind.u64.wrap ((BitVec.ofInt 64 m &&& BitVec.ofInt 64 4294967295).toNat) = m % 4294967296 := by
 obtain ⟨a, rfl⟩ := Int.eq_ofNat_of_zero_le h
 have e1 : (BitVec.ofInt 64 (a : Int)).toNat = a := by simp; omega
 have e2 : (BitVec.ofInt 64 4294967295).toNat = 4294967295 := by decide
 rw [BitVec.toNat_and, e1, e2, nat_and32, IntWalk.u64_in _ (by omega)]
 omega
section
variable {P : Program} {N : Nat} {o : Oper} {F : Fr} {w : World} {T U : TypeId} {x y : Operand} {m n : Int}
theorem ov_and32 (ho : o.op = .binOp .and T x y U) (hx : Fr.ev F x = some (.int .u64 m)) (hy : Fr.ev F y = some (.int .u64 4294967295)) (hm : 0 ≤ m ∧ m < 18446744073709551616) : OpV P N o F w (.int .u64 (m % 4294967296)) :=
 ov_bin ho hx hy (by
  have := u64_and32 m hm.1 hm.2
  simp [binOp, Op.intBits, IntKind.bits]
  exact this)
theorem ov_shr32 {k : IntKind} (ho : o.op = .binOp .shr T x y U) (hx : Fr.ev F x = some (.int .u64 m)) (hy : Fr.ev F y = some (.int k 32)) : OpV P N o F w (.int .u64 (m / 4294967296)) := by
 refine ov_bin ho hx hy ?_
 simp [binOp, Op.shift, IntKind.bits, Int.fdiv_eq_ediv]
theorem ov_addU (ho : o.op = .binOp .add T x y U) (hx : Fr.ev F x = some (.int .u64 m)) (hy : Fr.ev F y = some (.int .u64 n)) (hr : 0 ≤ m + n ∧ m + n ≤ 18446744073709551615) : OpV P N o F w (.int .u64 (m + n)) := by
 have := ov_addw (P := P) (N := N) (w := w) ho hx hy
 rwa [IntWalk.u64_in _ (by omega)] at this
theorem ov_mulU (ho : o.op = .binOp .mul T x y U) (hx : Fr.ev F x = some (.int .u64 m)) (hy : Fr.ev F y = some (.int .u64 n)) (hr : 0 ≤ m * n ∧ m * n ≤ 18446744073709551615) : OpV P N o F w (.int .u64 (m * n)) := by
 have := ov_mulw (P := P) (N := N) (w := w) ho hx hy
 rwa [IntWalk.u64_in _ (by omega)] at this
end
section
variable {P : Program} {f N : Nat} {k : List Item} {F : Fr} {w : World} {R : Ending → World → Prop}
theorem run_scope {c : Code} (h : Run P f N (.code c :: .inScope c :: k) F w R) : Run P f N (.code (.scope c) :: k) F w R :=
 fun a ha => RunA.of_step (fun _ => .one step_scope) (h a ha)
end
theorem Own.readsI {B : Nat} {w0 w : World} {H : List (Option Blk)} (h : Own B w0 w H) (k : Nat) {b : Nat} {t : TypeId} {n : Nat} {G : Int → Value} (hk : H[k]? = some (some (vch b t n G))) : IAt w.heap.size w (some ⟨b, 0, none⟩) n G := h.reads k hk n (Nat.le_refl _)
theorem IRow.openS {ao : Option Addr} {m cap : Nat} {E : TypeId} {n : Nat} {G : Int → Value} {c : Option Blk} {B : Nat} {w0 w : World} {H : List (Option Blk)} (h : IRow (.slice ao m cap) E n G c) (ho : Own B w0 w H) (k : Nat) (hk : H[k]? = some c) :
  ∃ b, (0 < n → ao = some ⟨b, 0, none⟩) ∧ ∀ i : Int, 0 ≤ i → i < n → w.cell? ⟨b, 0 + i.toNat, none⟩ = some (G i) := by
 obtain ⟨ao', cap', b, h1, h2, h3⟩ := h.open ho k hk
 cases h1
 exact ⟨b, h2, h3⟩
theorem SRow.openS {ao : Option Addr} {m cap : Nat} {E : TypeId} {s n : Nat} {G : Int → List Value} {c : Option Blk} {B : Nat} {w0 w : World} {H : List (Option Blk)} (h : SRow (.slice ao m cap) E s n G c) (ho : Own B w0 w H) (k : Nat) (hk : H[k]? = some c) :
  ∃ b, (0 < n → ao = some ⟨b, 0, none⟩) ∧ ∀ i : Int, 0 ≤ i → i < n → ∀ fo, fo < s → w.cell? ⟨b, 0 + i.toNat * s + fo, none⟩ = some ((G i).getD fo undef) := by
 obtain ⟨ao', cap', b, h1, h2, h3⟩ := h.open ho k hk
 cases h1
 exact ⟨b, h2, h3⟩
theorem Own.congrI {B : Nat} {w0 w : World} {H : List (Option Blk)} (h : Own B w0 w H) (k : Nat) {b : Nat} {t : TypeId} {n : Nat} {G G' : Int → Value} (hk : H[k]? = some (some (vch b t n G))) (e : ∀ i : Int, 0 ≤ i → i < n → G i = G' i) : Own B w0 w (H.set k (some (vch b t n G'))) :=
 h.congr k hk (fun j => G' (j : Int)) (fun i hi => e i (by omega) (by have : i < n := hi; omega))
section
variable {P : Program} {N : Nat} {o : Oper} {F : Fr} {w : World} {B : Nat} {w0 : World} {H : List (Option Blk)}
theorem ov_sliceL {T E : TypeId} {x l : Operand} {ao : Option Addr} {b off n c s : Nat} {k1 : IntKind} {i : Int} (ho : o.op = .slice T x (some l) none none) (hT : P.underlying T = some (.slice E)) (hs : (P.info? E).map (·.size) = some s)
  (hx : Fr.ev F x = some (.slice ao n c)) (hl : Fr.ev F l = some (.int k1 i)) (hb : 0 ≤ i ∧ i ≤ n) (hic : i < c) (hao : ao = some ⟨b, off, none⟩) :
  OpV P N o F w (.slice (some ⟨b, off + i.toNat * s, none⟩) (n - i.toNat) (c - i.toNat)) := by
 intro a ha
 subst hao
 cases hq : P.info? E with
 | none => simp [hq] at hs
 | some q =>
  have hs' : q.size = s := by simpa [hq] using hs
  unfold execOp
  rw [ho]
  have h3 : ¬ (c = i.toNat) := by omega
  simp [Instr.sliceAt, Instr.slice, Instr.sliceBounds, Instr.sliceBound, asIntOf, run_underlying hT, ha.ev hx, ha.ev hl, Result.andThen, hb, sizeOf, typeInfo, hq, hs', h3, Addr.add_mid]
theorem ow_empty {T E : TypeId} {d : Nat} {z : Value} {sz by_ : Nat} (hd : o.dst = some d) (hN : Nat.blt d N = true) (ho : o.op = .buildSlice T 0 #[]) (hT : P.underlying T = some (.slice E))
  (hinfo : (P.info? E).map (fun i => (i.zero, i.size, i.bytes)) = some (some z, sz, by_)) (hO : Own B w0 w H) :
  OpW P N o F w (fun F' w' => ∃ v c, F' = (d, v) :: F ∧ Own B w0 w' (c :: H) ∧ (∀ f, Row v E sz 0 f c) ∧ Below w.heap.size w w') := by
 obtain ⟨i, hi, hz0, hsz, hby⟩ := info_parts hinfo
 refine (ow_w (v := .slice (some ⟨w.heap.size, 0, none⟩) 0 0) (w' := w.alloc (.cells #[] E)) hd hN (fun a ha => ?_)).mono fun F' w' ⟨g1, g2⟩ => ⟨_, _, g1, ?_, fun f => .inr ⟨w.heap.size, 0, fun _ => undef, rfl, Nat.le_refl _, by unfold maxLen; omega, rfl, fun i hi => by omega⟩, by rw [g2]; exact (Below.refl _ _).alloc (Nat.le_refl _) _⟩
 ·unfold execOp
  rw [ho]
  simp [Instr.buildSlice, run_underlying hT, sizeOf, typeInfo, hi, Instr.fill, run_newRow, Result.andThen]
  have e : ∀ f : Nat → Value, Array.map f (Array.range 0) = #[] := fun f => by apply Array.ext'; simp
  rw [e]
 ·rw [g2]
  exact hO.alloc #[] E _ _ (by simp) (fun j hj => by simp at hj)
theorem ow_app1 {T E : TypeId} {a1 y : Operand} {d b2 : Nat} {z v x : Value} {by_ n : Nat} {G : Int → Value} {c : Option Blk} (hd : o.dst = some d) (hN : Nat.blt d N = true)
  (ho : o.op = .call { callee := .builtin .append, args := #[a1, y], argTypes := #[T, T] })
  (hT : P.underlying T = some (.slice E)) (hinfo : (P.info? E).map (fun i => (i.zero, i.size, i.bytes)) = some (some z, 1, by_)) (hz : z.cells = #[z])
  (hO : Own B w0 w (some (vch b2 E 1 (fun _ => x)) :: H)) (kk : Nat) (hr : IRow v E n G c) (hk : H[kk]? = some c) (hs : Fr.ev F a1 = some v) (hy : Fr.ev F y = some (.slice (some ⟨b2, 0, none⟩) 1 1)) (hx1 : x.oneCell' = true)
  (hb : n + 1 ≤ 9223372036854775807 ∧ (n + 1) * by_ ≤ 140737488355328) :
  OpW P N o F w (fun F' w' => ∃ v' c', F' = (d, v') :: F ∧ Own B w0 w' (H.set kk c') ∧ IRow v' E (n + 1) (upd G n x) c' ∧ w.heap.size ≤ w'.heap.size) :=
 have hsrc : IAt w.heap.size w (some ⟨b2, 0, none⟩) 1 (fun _ => x) := hO.reads 0 rfl 1 (Nat.le_refl _)
 (ow_appS hd hN ho hT hinfo hz hO (kk + 1) hr (by simpa using hk) hs hy hsrc (fun _ => hx1) hb).mono fun F' w' ⟨v', c', h1, h2, h3, h4⟩ => ⟨v', c', h1, h2.tail, h3.congr (fun i h0 hi => join1 G n (fun _ => x) i (by omega) h0), h4⟩
theorem ow_copy {T1 T2 E : TypeId} {x y : Operand} {d b o1 dLen dCap sb so sLen sCap m : Nat} {t : TypeId} {G U : Int → Value} (n : Nat) (hd : o.dst = some d) (hN : Nat.blt d N = true)
  (ho : o.op = .call { callee := .builtin .copy, args := #[x, y], argTypes := #[T1, T2] }) (hT : P.underlying T1 = some (.slice E)) (hs : (P.info? E).map (·.size) = some 1)
  (hO : Own B w0 w H) (kk : Nat) (hk : H[kk]? = some (some (vch b t m G))) (hx : Fr.ev F x = some (.slice (some ⟨b, o1, none⟩) dLen dCap)) (hy : Fr.ev F y = some (.slice (some ⟨sb, so, none⟩) sLen sCap)) (hn : n = min sLen dLen) (hfit : o1 + n ≤ m)
  (hsrc : ∀ i : Int, 0 ≤ i → i < n → w.cell? ⟨sb, so + i.toNat, none⟩ = some (U i)) (h1 : ∀ j, (U j).oneCell' = true) :
  OpW P N o F w (fun F' w' => F' = (d, .int .i64 n) :: F ∧ Own B w0 w' (H.set kk (some (vch b t m (fun j => if (o1 : Int) ≤ j ∧ j < (o1 : Int) + n then U (j - o1) else G j)))) ∧ w'.heap.size = w.heap.size) := by
 have hcopy := run_copy_cells (P := P) w T1 T2 o.type E b o1 dLen dCap ⟨sb, so, none⟩ sLen sCap ((List.range n).map fun (j : Nat) => U (j : Int)) hT hs (by simp [hn]) (by
  intro j v hv
  have hj : j < n := by
   have := (List.getElem?_eq_some_iff.1 hv).1
   simpa using this
  rw [Addr.add_mid]
  have := hsrc (j : Int) (by omega) (by omega)
  rw [Int.toNat_natCast] at this
  rw [this]
  simpa [hj] using hv) (fun j hj => by
   have hj' : j < n := by simpa using hj
   exact Option.isSome_iff_exists.2 ⟨_, hO.cell kk hk (o1 + j) (by show o1 + j < m; omega)⟩) (fun j _ => (hO.get kk hk).frozen _) (by simp [h1])
 refine (ow_w (v := .int .i64 n) (w' := w.setCells b o1 ((List.range n).map fun (j : Nat) => U (j : Int))) hd hN (fun a ha => ?_)).mono fun F' w' ⟨e1, e2⟩ => ⟨e1, ?_, by rw [e2]; exact size_setCells _ _ _ _⟩
 ·obtain ⟨cs, he⟩ := execOp_bi a.eval .copy [x, y] #[T1, T2] ho
  rw [he]
  simp only [builtin, List.map_cons, List.map_nil, ha.ev hx, ha.ev hy]
  rw [show (#[Value.slice (some ⟨b, o1, none⟩) dLen dCap, .slice (some ⟨sb, so, none⟩) sLen sCap] : Array Value) = [Value.slice (some ⟨b, o1, none⟩) dLen dCap, .slice (some ⟨sb, so, none⟩) sLen sCap].toArray from rfl] at hcopy
  simp [hcopy, Result.andThen, goInt]
 ·rw [e2]
  have hkl : kk < H.length := (List.getElem?_eq_some_iff.1 hk).1
  have h2 := (hO.storeN ((List.range n).map fun (j : Nat) => U (j : Int)) kk hk o1).congr kk (x := { (vch b t m G) with f := fun j => if o1 ≤ j ∧ j < o1 + ((List.range n).map fun (j : Nat) => U (j : Int)).length then ((List.range n).map fun (j : Nat) => U (j : Int)).getD (j - o1) undef else (vch b t m G).f j }) (by simp [hkl])
   (fun j => if (o1 : Int) ≤ (j : Int) ∧ (j : Int) < (o1 : Int) + n then U ((j : Int) - o1) else G j) (fun j hj => by
   simp only [List.length_map, List.length_range, vch]
   by_cases e : o1 ≤ j ∧ j < o1 + n
   ·rw [if_pos e, if_pos (by omega)]
    have e1 : j - o1 < n := by omega
    have e2 : ((j - o1 : Nat) : Int) = (j : Int) - o1 := by omega
    simp [e1, e2]
   ·rw [if_neg e, if_neg (by omega)])
  rw [List.set_set] at h2
  exact h2
end
end Go.Proofs.YtbcjfjldmfljgaaGreat
