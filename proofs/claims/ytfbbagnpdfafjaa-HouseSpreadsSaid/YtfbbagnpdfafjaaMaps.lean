import Derived.Test.YtfbbagnpdfafjaaRul
import Derived.MapKept
set_option maxRecDepth 100000
namespace Go.Proofs.Ytfbbagnpdfafjaa
open Go.RowKit Go.Proofs Go.MapKept
section
variable {P : Program} {f N : Nat} {o : Oper} {F : Fr} {w : World} {k : List Item} {R : Ending → World → Prop} {ops : Array Oper} {rest : List Oper} {B : Nat} {w0 : World} {H : List (Option Blk)}
theorem ov_slice3 {T E : TypeId} {x h u : Operand} {ao : Option Addr} {n c : Nat} {k1 k2 : IntKind} {j j2 : Int} {s : Nat} (m : Nat) (ho : o.op = .slice T x none (some h) (some u)) (hT : P.underlying T = some (.slice E)) (hs : (P.info? E).map (·.size) = some s)
  (hx : Fr.ev F x = some (.slice ao n c)) (hh : Fr.ev F h = some (.int k1 j)) (hu : Fr.ev F u = some (.int k2 j2)) (hj : j = m) (hj2 : j2 = m) (hb : m ≤ c) : OpV P N o F w (.slice ao m m) := by
 intro a ha
 subst hj; subst hj2
 cases hq : P.info? E with
 | none => simp [hq] at hs
 | some q =>
  unfold execOp
  rw [ho]
  have e : ∀ ad : Addr, ad.add 0 = ad := fun ad => by unfold Addr.add; simp
  have e2 : (fun x : Addr => x.add 0) = id := funext e
  simp [Instr.sliceAt, Instr.slice, Instr.sliceBounds, Instr.sliceBound, asIntOf, run_underlying hT, ha.ev hx, ha.ev hh, ha.ev hu, Result.andThen, hb, sizeOf, typeInfo, hq, e2]
theorem ov_ptrnil {T U E : TypeId} {x : Operand} {ad : Option Addr} (ho : o.op = .binOp .eql T x (.const (.pointer none)) U) (hT : P.underlying T = some (.pointer E)) (hx : Fr.ev F x = some (.pointer ad)) : OpV P N o F w (.bool ad.isNone) := by
 intro a ha
 have hn : a.eval (.const (.pointer none)) = .pointer none := rfl
 have h0 : (Op.equal T (.pointer ad) (.pointer none)).run P w = .ok ad.isNone w := by
  unfold Op.equal Op.maxDepth Op.equalIn
  rw [Sem.run_bind, run_underlying hT]
  cases ad <;> simp [Result.andThen]
 unfold execOp
 simp only [ho, ha.ev hx, hn, Sem.run_bind, eqGuard]
 simp [binOp, h0, Result.andThen]
theorem run_appG {t ty E : TypeId} {i : TypeInfo} {z : Value} (ht : P.underlying t = some (.slice E)) (hi : P.info? E = some i) (hz : i.zero = some z) (hzs : z.cells.size = i.size)
  {ao : Option Addr} {b n : Nat} {f : Nat → Value} (ho : Own B w0 w H) (hao : 0 < n → ao = some ⟨b, 0, none⟩) (hf : ∀ j, j < n * i.size → w.cell? ⟨b, j, none⟩ = some (f j))
  (ad : Addr) (m cp : Nat) (news : List Value) (hl : news.length = m * i.size) (hnews : ∀ j u, news[j]? = some u → w.cell? (ad.add j) = some u)
  (hm : 0 < m) (h63 : n + m ≤ maxLen) (hbytes : (n + m) * i.bytes ≤ 140737488355328) :
  ∃ v' blk w', (Builtin.append_ #[t, t] ty #[.slice ao n n, .slice (some ad) m cp]).run P w = .ok v' w' ∧ Own B w0 w' (some blk :: H) ∧ w.heap.size ≤ w'.heap.size ∧ Row v' E i.size (n + m) (appF (n * i.size) f news) (some blk) := by
 have hsmall : n + m ≤ 9223372036854775807 := by simp only [maxLen] at h63; omega
 have grown : ∀ (olds : List Value), olds.length = n * i.size → (∀ j, j < n * i.size → olds[j]? = some (f j)) → ∀ cp' : Nat, n + m ≤ cp' →
   ∃ g, (w.drew.alloc (.cells (olds.toArray ++ news.toArray ++ Builtin.zeroCells z.cells (cp' - (n + m))) E)).rowIs w.heap.size E (cp' * i.size) (appG (n * i.size) ((n + m) * i.size) f news g) := by
  intro olds hlo hof cp' hcp
  generalize hA : olds.toArray ++ news.toArray ++ Builtin.zeroCells z.cells (cp' - (n + m)) = A
  have hsize : A.size = cp' * i.size := by
   rw [← hA]
   simp only [Array.size_append, List.size_toArray, size_zeroCells, hzs, hlo, hl, ← Nat.add_mul]
   congr 1; omega
  refine ⟨fun j => A[j]?.getD undef, ?_⟩
  have := World.rowIs_alloc w.drew A E (appG (n * i.size) ((n + m) * i.size) f news (fun j => A[j]?.getD undef))
  rw [hsize] at this
  refine this fun j hj => ?_
  unfold appG
  by_cases h1 : j < n * i.size
  ·rw [if_pos h1, ← hA, Array.getElem?_append_left (by simp [hlo, hl]; omega), Array.getElem?_append_left (by simpa [hlo] using h1)]
   simpa using hof j h1
  ·rw [if_neg h1]
   by_cases h2 : j < (n + m) * i.size
   ·rw [if_pos h2, ← hA, Array.getElem?_append_left (by simp [hlo, hl, ← Nat.add_mul]; omega), Array.getElem?_append_right (by simp [hlo]; omega)]
    have : j - n * i.size < news.length := by rw [hl]; rw [Nat.add_mul] at h2; omega
    simp [hlo, this]
   ·rw [if_neg h2]
    obtain ⟨u, hu⟩ : ∃ u, A[j]? = some u := ⟨_, Array.getElem?_eq_getElem (by omega)⟩
    simp only [hu, Option.getD_some]
 have rowOf : ∀ (b cp' : Nat) (g : Nat → Value), n + m ≤ cp' → cp' ≤ maxLen → (∀ j, j < (n + m) * i.size → g j = appF (n * i.size) f news j) →
   Row (.slice (some ⟨b, 0, none⟩) (n + m) cp') E i.size (n + m) (appF (n * i.size) f news) (some ⟨b, E, cp' * i.size, g, none⟩) :=
  fun b cp' g h1 h2 h3 => .inr ⟨b, cp', g, rfl, h1, h2, rfl, h3⟩
 have fin : ∀ (ob : Obj) (y : Blk), y.m = none → (w.drew.alloc ob).rowIs y.b y.t y.n y.f → y.b = w.heap.size → Own B w0 (w.drew.alloc ob) (some y :: H) := by
  intro ob y hy h1 h2
  have hp := ho.past (((Below.refl w.heap.size w).drew).alloc (by simp) ob)
  refine hp.consB (blkIs.of_row hy h1) (by rw [h2]; exact ho.size) (fun x hx => ?_)
  have := blkIs.lt (ho.at_ x hx)
  omega
 cases ao with
 | none =>
  have hn0 : n = 0 := by
   rcases Nat.eq_zero_or_pos n with h | h
   ·exact h
   ·exact absurd (hao h) (by simp)
  subst hn0
  have hrun := run_append_nil (P := P) w t ty E i z ht hi hz ad m cp news hl hnews hm (by omega) (by have hb := hbytes; simp only [Nat.zero_add] at hb; omega)
  have hge := grownCap_ge w m 0 E
  have hle := grownCap_le_maxLen w m 0 E (by omega)
  obtain ⟨g, hg⟩ := grown [] (by simp) (fun j hj => by omega) (grownCap w m 0 E) (by omega)
  simp only [Nat.zero_add, Array.empty_append] at hg
  refine ⟨_, ⟨w.heap.size, E, grownCap w m 0 E * i.size, appG (0 * i.size) (m * i.size) f news g, none⟩, _, hrun, fin _ _ rfl hg rfl, by simp, ?_⟩
  have := rowOf w.heap.size (grownCap w m 0 E) (appG (0 * i.size) ((0 + m) * i.size) f news g) (by omega) hle (fun j hj => appG_eq _ _ hj)
  simpa only [Nat.zero_add] using this
 | some a0 =>
  have holds : ∀ j u, ((List.range (n * i.size)).map f)[j]? = some u → w.cell? (a0.add j) = some u := by
   intro j u hu
   have hj : j < n * i.size := by
    have := (List.getElem?_eq_some_iff.1 hu).1
    simpa using this
   have hn : 0 < n := Nat.pos_of_ne_zero fun e => by rw [e] at hj; omega
   have e := hao hn
   simp only [Option.some.injEq] at e
   rw [e]
   have hadd : (⟨b, 0, none⟩ : Addr).add j = ⟨b, j, none⟩ := by unfold Addr.add; split <;> simp_all
   rw [hadd, hf j hj]
   simpa [hj] using hu
  have hrun := run_append_grow (P := P) w t ty E i z ht hi hz a0 n n _ (by simp) holds ad m cp news hl hnews (by omega) (by omega) (growslice_fits (by omega) hbytes)
  have hge := grownCap_ge w (n + m) n E
  have hle := grownCap_le_maxLen w (n + m) n E h63
  obtain ⟨g2, hgr⟩ := grown ((List.range (n * i.size)).map f) (by simp) (fun j hj => by simp [hj]) (grownCap w (n + m) n E) hge
  refine ⟨_, ⟨w.heap.size, E, grownCap w (n + m) n E * i.size, appG (n * i.size) ((n + m) * i.size) f news g2, none⟩, _, hrun, fin _ _ rfl hgr rfl, by simp, ?_⟩
  exact rowOf w.heap.size _ _ hge hle (fun j hj => appG_eq _ _ hj)
theorem ow_appG {T E : TypeId} {a1 y : Operand} {d b2 b : Nat} {z : Value} {s by_ n : Nat} {G : Int → List Value} {x : List Value} {ao : Option Addr} (hd : o.dst = some d) (hN : Nat.blt d N = true)
  (ho : o.op = .call { callee := .builtin .append, args := #[a1, y], argTypes := #[T, T] })
  (hT : P.underlying T = some (.slice E)) (hinfo : (P.info? E).map (fun i => (i.zero, i.size, i.bytes)) = some (some z, s, by_)) (hsz : Nat.blt 0 s = true) (hz : z.cells.size = s)
  (hO : Own B w0 w (some ⟨b2, E, 1 * s, fun j => ([x].getD (j / s) []).getD (j % s) undef, none⟩ :: H)) (hs : Fr.ev F a1 = some (.slice ao n n)) (hy : Fr.ev F y = some (.slice (some ⟨b2, 0, none⟩) 1 1)) (hxl : x.length = s)
  (hao : 0 < n → ao = some ⟨b, 0, none⟩) (hr : ∀ i : Int, 0 ≤ i → i < n → ∀ fo, fo < s → w.cell? ⟨b, 0 + i.toNat * s + fo, none⟩ = some ((G i).getD fo undef))
  (hb : n + 1 ≤ 9223372036854775807 ∧ (n + 1) * by_ ≤ 140737488355328) :
  OpW P N o F w (fun F' w' => ∃ v' blk, F' = (d, v') :: F ∧ Own B w0 w' (some blk :: H) ∧ SRow v' E s (n + 1) (upd G n x) (some blk) ∧ w.heap.size ≤ w'.heap.size) := by
 obtain ⟨i, hi, hz0, rfl, hby⟩ := info_parts hinfo
 have hsp := lt_of_blt hsz
 have hf : ∀ j, j < n * i.size → w.cell? ⟨b, j, none⟩ = some ((G ((j / i.size : Nat) : Int)).getD (j % i.size) undef) := fun j hj => by
  have h1 : j / i.size < n := Nat.div_lt_of_lt_mul (by rw [Nat.mul_comm]; exact hj)
  have h2 := hr ((j / i.size : Nat) : Int) (Int.natCast_nonneg _) (Int.ofNat_lt.2 h1) (j % i.size) (Nat.mod_lt _ hsp)
  rw [Int.toNat_natCast] at h2
  have hdm := Nat.div_add_mod j i.size
  rw [Nat.mul_comm] at hdm
  rwa [Nat.zero_add, hdm] at h2
 have hcell : ∀ j u, x[j]? = some u → w.cell? ((⟨b2, 0, none⟩ : Addr).add j) = some u := fun j u hu => by
  obtain ⟨hj, _⟩ := List.getElem?_eq_some_iff.1 hu
  rw [hxl] at hj
  have hadd : (⟨b2, 0, none⟩ : Addr).add j = ⟨b2, j, none⟩ := by unfold Addr.add; split <;> simp_all
  have h1 := hO.cell 0 rfl j (by show j < 1 * i.size; omega)
  rw [hadd]
  dsimp only at h1
  rw [h1, Nat.div_eq_of_lt hj, Nat.mod_eq_of_lt hj]
  simp [hu]
 obtain ⟨v', blk, w', hrun, h2, h3, h4⟩ := run_appG (P := P) (ty := o.type) (f := fun j => (G ((j / i.size : Nat) : Int)).getD (j % i.size) undef) hT hi hz0 hz hO.tail hao hf ⟨b2, 0, none⟩ 1 1 x (by omega) hcell (by omega) (by unfold maxLen; omega) (by rw [hby]; exact hb.2)
 refine (ow_w (v := v') (w' := w') hd hN (fun a ha => ?_)).mono fun F' w'' ⟨e1, e2⟩ => ⟨v', blk, e1, by rw [e2]; exact h2, Row.congr h4 fun j hj => ?_, by rw [e2]; exact h3⟩
 ·obtain ⟨cs, he⟩ := execOp_bi a.eval .append [a1, y] #[T, T] ho
  rw [he]
  simp [builtin, ha.ev hs, ha.ev hy, hrun, Result.andThen]
 ·unfold appF upd
  have hdm := Nat.div_add_mod j i.size
  rw [Nat.mul_comm] at hdm
  have hmod := Nat.mod_lt j hsp
  by_cases h1 : j < n * i.size
  ·rw [if_pos h1]
   have : j / i.size < n := Nat.div_lt_of_lt_mul (by rw [Nat.mul_comm]; exact h1)
   rw [if_neg (by omega)]
  ·rw [if_neg h1]
   have h5 : j / i.size = n := by
    have ha : n ≤ j / i.size := (Nat.le_div_iff_mul_le hsp).2 (by omega)
    have hb2 : j / i.size < n + 1 := Nat.div_lt_of_lt_mul (by rw [Nat.mul_comm]; exact hj)
    omega
   rw [if_pos (by omega)]
   rw [h5] at hdm
   rw [show j - n * i.size = j % i.size by omega]
end
end Go.Proofs.Ytfbbagnpdfafjaa
