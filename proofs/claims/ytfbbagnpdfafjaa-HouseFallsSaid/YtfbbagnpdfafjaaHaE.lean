import Derived.Test.YtfbbagnpdfafjaaRul
import Derived.MapKept
import Derived.Test.YtfbbagnpdfafjaaHaD
set_option maxRecDepth 100000
namespace Go.Proofs.Ytfbbagnpdfafjaa
open Go.RowKit Go.Proofs Go.MapKept
section
variable {P : Program} {f N : Nat} {o : Oper} {F : Fr} {w : World} {k : List Item} {R : Ending → World → Prop} {ops : Array Oper} {rest : List Oper} {B : Nat} {w0 : World} {H : List (Option Blk)}
theorem ov_slice3 {T E : TypeId} {x h u : Operand} {ao : Option Addr} {n c : Nat} {k1 k2 : IntKind} {j j2 : Int} {s : Nat} (m : Nat) (ho : o.op = .slice T x none (some h) (some u)) (hT : P.underlying T = some (.slice E)) (hs : (P.info? E).map (·.size) = some s)
  (hx : Fr.ev F x = some (.slice ao n c)) (hh : Fr.ev F h = some (.int k1 j)) (hu : Fr.ev F u = some (.int k2 j2)) (hj : j = m) (hj2 : j2 = m) (hb : m ≤ c) : OpV P N o F w (.slice ao m m) := by
 intro a ha
 subst hj; subst hj2
 cases hq : P.info? E with
 | none => simp [hq] at hs
 | some q =>
  unfold execOp
  rw [ho]
  have e : ∀ ad : Addr, ad.add 0 = ad := fun ad => by unfold Addr.add; simp
  have e2 : (fun x : Addr => x.add 0) = id := funext e
  simp [Instr.sliceAt, Instr.slice, Instr.sliceBounds, Instr.sliceBound, asIntOf, run_underlying hT, ha.ev hx, ha.ev hh, ha.ev hu, Result.andThen, hb, sizeOf, typeInfo, hq, e2]
theorem ov_ptrnil {T U E : TypeId} {x : Operand} {ad : Option Addr} (ho : o.op = .binOp .eql T x (.const (.pointer none)) U) (hT : P.underlying T = some (.pointer E)) (hx : Fr.ev F x = some (.pointer ad)) : OpV P N o F w (.bool ad.isNone) := by
 intro a ha
 have hn : a.eval (.const (.pointer none)) = .pointer none := rfl
 have h0 : (Op.equal T (.pointer ad) (.pointer none)).run P w = .ok ad.isNone w := by
  unfold Op.equal Op.maxDepth Op.equalIn
  rw [Sem.run_bind, run_underlying hT]
  cases ad <;> simp [Result.andThen]
 unfold execOp
 simp only [ho, ha.ev hx, hn, Sem.run_bind, eqGuard]
 simp [binOp, h0, Result.andThen]
theorem run_appG {t ty E : TypeId} {i : TypeInfo} {z : Value} (ht : P.underlying t = some (.slice E)) (hi : P.info? E = some i) (hz : i.zero = some z) (hzs : z.cells.size = i.size)
  {ao : Option Addr} {b n : Nat} {f : Nat → Value} (ho : Own B w0 w H) (hao : 0 < n → ao = some ⟨b, 0, none⟩) (hf : ∀ j, j < n * i.size → w.cell? ⟨b, j, none⟩ = some (f j))
  (ad : Addr) (m cp : Nat) (news : List Value) (hl : news.length = m * i.size) (hnews : ∀ j u, news[j]? = some u → w.cell? (ad.add j) = some u)
  (hm : 0 < m) (h63 : n + m ≤ maxLen) (hbytes : (n + m) * i.bytes ≤ 140737488355328) :
  ∃ v' blk w', (Builtin.append_ #[t, t] ty #[.slice ao n n, .slice (some ad) m cp]).run P w = .ok v' w' ∧ Own B w0 w' (some blk :: H) ∧ w.heap.size ≤ w'.heap.size ∧ Row v' E i.size (n + m) (appF (n * i.size) f news) (some blk) := by
 have hsmall : n + m ≤ 9223372036854775807 := by simp only [maxLen] at h63; omega
 have grown : ∀ (olds : List Value), olds.length = n * i.size → (∀ j, j < n * i.size → olds[j]? = some (f j)) → ∀ cp' : Nat, n + m ≤ cp' →
   ∃ g, (w.drew.alloc (.cells (olds.toArray ++ news.toArray ++ Builtin.zeroCells z.cells (cp' - (n + m))) E)).rowIs w.heap.size E (cp' * i.size) (appG (n * i.size) ((n + m) * i.size) f news g) := by
  intro olds hlo hof cp' hcp
  generalize hA : olds.toArray ++ news.toArray ++ Builtin.zeroCells z.cells (cp' - (n + m)) = A
  have hsize : A.size = cp' * i.size := by
   rw [← hA]
   simp only [Array.size_append, List.size_toArray, size_zeroCells, hzs, hlo, hl, ← Nat.add_mul]
   congr 1; omega
  refine ⟨fun j => A[j]?.getD undef, ?_⟩
  have := World.rowIs_alloc w.drew A E (appG (n * i.size) ((n + m) * i.size) f news (fun j => A[j]?.getD undef))
  rw [hsize] at this
  refine this fun j hj => ?_
  unfold appG
  by_cases h1 : j < n * i.size
  ·rw [if_pos h1, ← hA, Array.getElem?_append_left (by simp [hlo, hl]; omega), Array.getElem?_append_left (by simpa [hlo] using h1)]
   simpa using hof j h1
  ·rw [if_neg h1]
   by_cases h2 : j < (n + m) * i.size
   ·rw [if_pos h2, ← hA, Array.getElem?_append_left (by simp [hlo, hl, ← Nat.add_mul]; omega), Array.getElem?_append_right (by simp [hlo]; omega)]
    have : j - n * i.size < news.length := by rw [hl]; rw [Nat.add_mul] at h2; omega
    simp [hlo, this]
   ·rw [if_neg h2]
    obtain ⟨u, hu⟩ : ∃ u, A[j]? = some u := ⟨_, Array.getElem?_eq_getElem (by omega)⟩
    simp only [hu, Option.getD_some]
 have rowOf : ∀ (b cp' : Nat) (g : Nat → Value), n + m ≤ cp' → cp' ≤ maxLen → (∀ j, j < (n + m) * i.size → g j = appF (n * i.size) f news j) →
   Row (.slice (some ⟨b, 0, none⟩) (n + m) cp') E i.size (n + m) (appF (n * i.size) f news) (some ⟨b, E, cp' * i.size, g, none⟩) :=
  fun b cp' g h1 h2 h3 => .inr ⟨b, cp', g, rfl, h1, h2, rfl, h3⟩
 have fin : ∀ (ob : Obj) (y : Blk), y.m = none → (w.drew.alloc ob).rowIs y.b y.t y.n y.f → y.b = w.heap.size → Own B w0 (w.drew.alloc ob) (some y :: H) := by
  intro ob y hy h1 h2
  have hp := ho.past (((Below.refl w.heap.size w).drew).alloc (by simp) ob)
  refine hp.consB (blkIs.of_row hy h1) (by rw [h2]; exact ho.size) (fun x hx => ?_)
  have := blkIs.lt (ho.at_ x hx)
  omega
 cases ao with
 | none =>
  have hn0 : n = 0 := by
   rcases Nat.eq_zero_or_pos n with h | h
   ·exact h
   ·exact absurd (hao h) (by simp)
  subst hn0
  have hrun := run_append_nil (P := P) w t ty E i z ht hi hz ad m cp news hl hnews hm (by omega) (by have hb := hbytes; simp only [Nat.zero_add] at hb; omega)
  have hge := grownCap_ge w m 0 E
  have hle := grownCap_le_maxLen w m 0 E (by omega)
  obtain ⟨g, hg⟩ := grown [] (by simp) (fun j hj => by omega) (grownCap w m 0 E) (by omega)
  simp only [Nat.zero_add, Array.empty_append] at hg
  refine ⟨_, ⟨w.heap.size, E, grownCap w m 0 E * i.size, appG (0 * i.size) (m * i.size) f news g, none⟩, _, hrun, fin _ _ rfl hg rfl, by simp, ?_⟩
  have := rowOf w.heap.size (grownCap w m 0 E) (appG (0 * i.size) ((0 + m) * i.size) f news g) (by omega) hle (fun j hj => appG_eq _ _ hj)
  simpa only [Nat.zero_add] using this
 | some a0 =>
  have holds : ∀ j u, ((List.range (n * i.size)).map f)[j]? = some u → w.cell? (a0.add j) = some u := by
   intro j u hu
   have hj : j < n * i.size := by
    have := (List.getElem?_eq_some_iff.1 hu).1
    simpa using this
   have hn : 0 < n := Nat.pos_of_ne_zero fun e => by rw [e] at hj; omega
   have e := hao hn
   simp only [Option.some.injEq] at e
   rw [e]
   have hadd : (⟨b, 0, none⟩ : Addr).add j = ⟨b, j, none⟩ := by unfold Addr.add; split <;> simp_all
   rw [hadd, hf j hj]
   simpa [hj] using hu
  have hrun := run_append_grow (P := P) w t ty E i z ht hi hz a0 n n _ (by simp) holds ad m cp news hl hnews (by omega) (by omega) (growslice_fits (by omega) hbytes)
  have hge := grownCap_ge w (n + m) n E
  have hle := grownCap_le_maxLen w (n + m) n E h63
  obtain ⟨g2, hgr⟩ := grown ((List.range (n * i.size)).map f) (by simp) (fun j hj => by simp [hj]) (grownCap w (n + m) n E) hge
  refine ⟨_, ⟨w.heap.size, E, grownCap w (n + m) n E * i.size, appG (n * i.size) ((n + m) * i.size) f news g2, none⟩, _, hrun, fin _ _ rfl hgr rfl, by simp, ?_⟩
  exact rowOf w.heap.size _ _ hge hle (fun j hj => appG_eq _ _ hj)
theorem ow_appG {T E : TypeId} {a1 y : Operand} {d b2 b : Nat} {z : Value} {s by_ n : Nat} {G : Int → List Value} {x : List Value} {ao : Option Addr} (hd : o.dst = some d) (hN : Nat.blt d N = true)
  (ho : o.op = .call { callee := .builtin .append, args := #[a1, y], argTypes := #[T, T] })
  (hT : P.underlying T = some (.slice E)) (hinfo : (P.info? E).map (fun i => (i.zero, i.size, i.bytes)) = some (some z, s, by_)) (hsz : Nat.blt 0 s = true) (hz : z.cells.size = s)
  (hO : Own B w0 w (some ⟨b2, E, 1 * s, fun j => ([x].getD (j / s) []).getD (j % s) undef, none⟩ :: H)) (hs : Fr.ev F a1 = some (.slice ao n n)) (hy : Fr.ev F y = some (.slice (some ⟨b2, 0, none⟩) 1 1)) (hxl : x.length = s)
  (hao : 0 < n → ao = some ⟨b, 0, none⟩) (hr : ∀ i : Int, 0 ≤ i → i < n → ∀ fo, fo < s → w.cell? ⟨b, 0 + i.toNat * s + fo, none⟩ = some ((G i).getD fo undef))
  (hb : n + 1 ≤ 9223372036854775807 ∧ (n + 1) * by_ ≤ 140737488355328) :
  OpW P N o F w (fun F' w' => ∃ v' blk, F' = (d, v') :: F ∧ Own B w0 w' (some blk :: H) ∧ SRow v' E s (n + 1) (upd G n x) (some blk) ∧ w.heap.size ≤ w'.heap.size) := by
 obtain ⟨i, hi, hz0, rfl, hby⟩ := info_parts hinfo
 have hsp := lt_of_blt hsz
 have hf : ∀ j, j < n * i.size → w.cell? ⟨b, j, none⟩ = some ((G ((j / i.size : Nat) : Int)).getD (j % i.size) undef) := fun j hj => by
  have h1 : j / i.size < n := Nat.div_lt_of_lt_mul (by rw [Nat.mul_comm]; exact hj)
  have h2 := hr ((j / i.size : Nat) : Int) (Int.natCast_nonneg _) (Int.ofNat_lt.2 h1) (j % i.size) (Nat.mod_lt _ hsp)
  rw [Int.toNat_natCast] at h2
  have hdm := Nat.div_add_mod j i.size
  rw [Nat.mul_comm] at hdm
  rwa [Nat.zero_add, hdm] at h2
 have hcell : ∀ j u, x[j]? = some u → w.cell? ((⟨b2, 0, none⟩ : Addr).add j) = some u := fun j u hu => by
  obtain ⟨hj, _⟩ := List.getElem?_eq_some_iff.1 hu
  rw [hxl] at hj
  have hadd : (⟨b2, 0, none⟩ : Addr).add j = ⟨b2, j, none⟩ := by unfold Addr.add; split <;> simp_all
  have h1 := hO.cell 0 rfl j (by show j < 1 * i.size; omega)
  rw [hadd]
  dsimp only at h1
  rw [h1, Nat.div_eq_of_lt hj, Nat.mod_eq_of_lt hj]
  simp [hu]
 obtain ⟨v', blk, w', hrun, h2, h3, h4⟩ := run_appG (P := P) (ty := o.type) (f := fun j => (G ((j / i.size : Nat) : Int)).getD (j % i.size) undef) hT hi hz0 hz hO.tail hao hf ⟨b2, 0, none⟩ 1 1 x (by omega) hcell (by omega) (by unfold maxLen; omega) (by rw [hby]; exact hb.2)
 refine (ow_w (v := v') (w' := w') hd hN (fun a ha => ?_)).mono fun F' w'' ⟨e1, e2⟩ => ⟨v', blk, e1, by rw [e2]; exact h2, Row.congr h4 fun j hj => ?_, by rw [e2]; exact h3⟩
 ·obtain ⟨cs, he⟩ := execOp_bi a.eval .append [a1, y] #[T, T] ho
  rw [he]
  simp [builtin, ha.ev hs, ha.ev hy, hrun, Result.andThen]
 ·unfold appF upd
  have hdm := Nat.div_add_mod j i.size
  rw [Nat.mul_comm] at hdm
  have hmod := Nat.mod_lt j hsp
  by_cases h1 : j < n * i.size
  ·rw [if_pos h1]
   have : j / i.size < n := Nat.div_lt_of_lt_mul (by rw [Nat.mul_comm]; exact h1)
   rw [if_neg (by omega)]
  ·rw [if_neg h1]
   have h5 : j / i.size = n := by
    have ha : n ≤ j / i.size := (Nat.le_div_iff_mul_le hsp).2 (by omega)
    have hb2 : j / i.size < n + 1 := Nat.div_lt_of_lt_mul (by rw [Nat.mul_comm]; exact hj)
    omega
   rw [if_pos (by omega)]
   rw [h5] at hdm
   rw [show j - n * i.size = j % i.size by omega]
end
end Go.Proofs.Ytfbbagnpdfafjaa
set_option maxRecDepth 100000
namespace Go.Proofs.Ytfbbagnpdfafjaa
open Go.RowKit Go.Proofs
def neeF (r : HR) (mv : Int → Int → Int) (a : HA) : Int := marF mv r.mn r.rate a.pos r.pr
theorem need_any (hb B k : Nat) (r : HR) (mv : Int → Int → Int) (a : HA) (H : List (Option Blk)) (w0 w : World) (hO : Own B w0 w H) (hk : H[k]? = some (houB hb r)) (hmv : SrcS H r.ma 12 r.mn (fun i => monL (mv i))) (hB : HBd r mv) (hp : Bd a.pos 2000000) (hr : PBd r.pr) :
  Calls Try.prog 63 #[ptr hb, .agg (accL a).toArray] w fun e w' => e = .returned (iv (neeF r mv a)) ∧ Own B w0 w' H := by
 refine calls_of_run (F := [(0, _), (1, _)]) Try.func63 rfl Try.ntmps63 rfl rfl <| run_seq <| run_region <| rl_ow rfl (ow_box _ rfl rfl rfl rfl rfl hO) ?_
 rintro _ w1 ⟨b3, rfl, hO2, hs3⟩
 refine rl_v rfl rfl rfl (ov_assign rfl rfl) <| rl_nil <| run_seq <| run_class (Cl B w0 (some (lch b3 127 (accL a)) :: H)) (⟨hO2.drew⟩) mixed (by kernel_rfl) ?_
 refine rk_v rfl rfl rfl (fun wq hQ => ov_move rfl rfl) ?_
 refine rk_v rfl rfl rfl (fun wq hQ => ov_fieldS rfl Try.underlying127 rfl (fo := 2) rfl (by kernel_rfl) rfl) ?_
 refine rk_v rfl rfl rfl (fun wq hQ => ov_loadN rfl Try.underlying118 rfl (by kernel_rfl) rfl ((hQ.own).rangeSub 0 2 rfl (accL_mon a))) ?_
 refine rk_v rfl rfl rfl (fun wq hQ => ov_move rfl rfl) ?_
 refine rk_v rfl rfl rfl (fun wq hQ => ov_nil rfl rfl) ?_
 refine rk_v rfl rfl rfl (fun wq hQ => ov_fieldS rfl Try.underlying124 rfl (fo := 1) rfl (by kernel_rfl) rfl) ?_
 refine rk_v rfl rfl rfl (fun wq hQ => ov_loadN rfl Try.underlying118 rfl (by kernel_rfl) rfl ((hQ.own).rangeSub (k + 1) 1 hk r.l_mon)) ?_
 refine rk_call callable_89 rfl rfl rfl rfl rfl rfl (fun wq hQ => (margin_any hb B (k + 1) r mv a.pos r.pr _ w0 wq (hQ.own) hk hmv.cons hB hp hr).mono fun _ _ h => ⟨h.1, ⟨h.2⟩⟩) ?_
 refine rk_v rfl rfl rfl (fun wq hQ => ov_assign rfl rfl) ?_
 refine rk_nil (fun w7 hQ => ?_)
 refine run_ret Try.func63 (res1 Try.results63 rfl) ?_
 exact ⟨rfl, (hQ.own).tail⟩
theorem covered_any (hb B k : Nat) (r : HR) (mv : Int → Int → Int) (a : HA) (H : List (Option Blk)) (w0 w : World) (hO : Own B w0 w H) (hk : H[k]? = some (houB hb r)) (hmv : SrcS H r.ma 12 r.mn (fun i => monL (mv i))) (hB : HBd r mv) (hp : Bd a.pos 2000000) (hr : PBd r.pr) :
  Calls Try.prog 73 #[ptr hb, .agg (accL a).toArray] w fun e w' => e = .returned (.bool (decide (neeF r mv a ≤ a.cash))) ∧ Own B w0 w' H := by
 refine calls_of_run (F := [(0, _), (1, _)]) Try.func73 rfl Try.ntmps73 rfl rfl <| run_seq <| run_region <| rl_ow rfl (ow_box _ rfl rfl rfl rfl rfl hO) ?_
 rintro _ w1 ⟨b3, rfl, hO2, hs3⟩
 refine rl_v rfl rfl rfl (ov_assign rfl rfl) <| rl_nil <| run_seq <| run_class (Cl B w0 (some (lch b3 127 (accL a)) :: H)) (⟨hO2.drew⟩) mixed (by kernel_rfl) ?_
 refine rk_v rfl rfl rfl (fun wq hQ => ov_fieldS rfl Try.underlying127 rfl (fo := 0) rfl (by kernel_rfl) rfl) ?_
 refine rk_v rfl rfl rfl (fun wq hQ => ov_load rfl Try.underlying2 rfl rfl (by exact (hQ.own).cellL 0 rfl (off := 0) rfl)) ?_
 refine rk_v rfl rfl rfl (fun wq hQ => ov_move rfl rfl) ?_
 refine rk_v rfl rfl rfl (fun wq hQ => ov_loadW rfl Try.underlying127 rfl (by kernel_rfl) rfl (hQ.own) 0 rfl) ?_
 refine rk_call callable_63 rfl rfl rfl rfl rfl rfl (fun wq hQ => (need_any hb B (k + 1) r mv a _ w0 wq (hQ.own) hk hmv.cons hB hp hr).mono fun _ _ h => ⟨h.1, ⟨h.2⟩⟩) ?_
 refine rk_v rfl rfl rfl (fun wq hQ => ov_geq rfl rfl rfl) ?_
 refine rk_v rfl rfl rfl (fun wq hQ => ov_assign rfl rfl) ?_
 refine rk_nil (fun w7 hQ => ?_)
 refine run_ret Try.func73 (res1 Try.results73 rfl) ?_
 exact ⟨rfl, (hQ.own).tail⟩
def alwF (r : HR) (mv : Int → Int → Int) (a b : HA) : Prop := neeF r mv b ≤ b.cash ∨ neeF r mv b ≤ neeF r mv a ∧ a.cash ≤ b.cash
instance (r : HR) (mv : Int → Int → Int) (a b : HA) : Decidable (alwF r mv a b) := by unfold alwF; exact inferInstance
theorem allows_any (hb B k : Nat) (r : HR) (mv : Int → Int → Int) (a b : HA) (H : List (Option Blk)) (w0 w : World) (hO : Own B w0 w H) (hk : H[k]? = some (houB hb r)) (hmv : SrcS H r.ma 12 r.mn (fun i => monL (mv i))) (hB : HBd r mv) (hp : Bd a.pos 2000000) (hq : Bd b.pos 2000000) (hr : PBd r.pr) :
  Calls Try.prog 65 #[ptr hb, .agg (accL a).toArray, .agg (accL b).toArray] w fun e w' => e = .returned (.bool (decide (alwF r mv a b))) ∧ Own B w0 w' H := by
 refine calls_of_run (F := [(0, _), (1, _), (2, _)]) Try.func65 rfl Try.ntmps65 rfl rfl <| run_seq <| run_region <| rl_ow rfl (ow_box _ rfl rfl rfl rfl rfl hO) ?_
 rintro _ w1 ⟨b4, rfl, hO2, hs3⟩
 refine rl_ow rfl (ow_box _ rfl rfl rfl rfl rfl hO2) ?_
 rintro _ w4 ⟨b5, rfl, hO5, hs6⟩
 refine rl_v rfl rfl rfl (ov_assign rfl rfl) <| rl_nil <| run_seq <| run_class (Cl B w0 (some (lch b5 127 (accL b)) :: some (lch b4 127 (accL a)) :: H)) (⟨hO5.drew⟩) mixed (by kernel_rfl) ?_
 refine rk_v rfl rfl rfl (fun wq hQ => ov_move rfl rfl) ?_
 refine rk_v rfl rfl rfl (fun wq hQ => ov_loadW rfl Try.underlying127 rfl (by kernel_rfl) rfl (hQ.own) 0 rfl) ?_
 refine rk_call callable_73 rfl rfl rfl rfl rfl rfl (fun wq hQ => (covered_any hb B (k + 2) r mv b _ w0 wq (hQ.own) hk hmv.cons.cons hB hq hr).mono fun _ _ h => ⟨h.1, ⟨h.2⟩⟩) ?_
 refine rk_v rfl rfl rfl (fun wq hQ => ov_move rfl rfl) ?_
 first | refine rk_split_dec 10 rfl (fun g1 => ?_) (fun g1 => ?_) | refine rk_split 10 rfl (fun g1 => ?_) (fun g1 => ?_)
 ·refine rk_gskip rfl rfl rfl rfl rfl rfl <| rk_gskip rfl rfl rfl rfl rfl rfl <| rk_gskip rfl rfl rfl rfl rfl rfl <| rk_gskip rfl rfl rfl rfl rfl rfl <| rk_gskip rfl rfl rfl rfl rfl rfl <| rk_gskip rfl rfl rfl rfl rfl rfl <| rk_gskip rfl rfl rfl rfl rfl rfl <| rk_gskip rfl rfl rfl rfl rfl rfl <| rk_gundef rfl rfl rfl rfl rfl <| rk_gundef rfl rfl rfl rfl rfl <| rk_gundef rfl rfl rfl rfl rfl <| rk_gundef rfl rfl rfl rfl rfl <| rk_gundef rfl rfl rfl rfl rfl <| rk_gskip rfl rfl rfl rfl rfl rfl <| rk_v rfl rfl rfl (fun wq hQ => ov_pick_t rfl rfl rfl) ?_
  refine rk_v rfl rfl rfl (fun wq hQ => ov_assign rfl rfl) ?_
  refine rk_nil (fun w11 hQ => ?_)
  refine run_ret Try.func65 (res1 Try.results65 rfl) ?_
  exact ⟨by rw [decide_eq_true (show alwF r mv a b from .inl g1)], (hQ.own).tail.tail⟩
 ·refine rk_gv rfl rfl rfl rfl rfl (fun wq hQ => ov_move rfl rfl) ?_
  refine rk_gv rfl rfl rfl rfl rfl (fun wq hQ => ov_loadW rfl Try.underlying127 rfl (by kernel_rfl) rfl (hQ.own) 0 rfl) ?_
  refine rk_gcall callable_63 rfl rfl rfl rfl rfl rfl rfl rfl (fun wq hQ => (need_any hb B (k + 2) r mv b _ w0 wq (hQ.own) hk hmv.cons.cons hB hq hr).mono fun _ _ h => ⟨h.1, ⟨h.2⟩⟩) ?_
  refine rk_gv rfl rfl rfl rfl rfl (fun wq hQ => ov_move rfl rfl) ?_
  refine rk_gv rfl rfl rfl rfl rfl (fun wq hQ => ov_loadW rfl Try.underlying127 rfl (by kernel_rfl) rfl (hQ.own) 1 rfl) ?_
  refine rk_gcall callable_63 rfl rfl rfl rfl rfl rfl rfl rfl (fun wq hQ => (need_any hb B (k + 2) r mv a _ w0 wq (hQ.own) hk hmv.cons.cons hB hp hr).mono fun _ _ h => ⟨h.1, ⟨h.2⟩⟩) ?_
  refine rk_gv rfl rfl rfl rfl rfl (fun wq hQ => ov_leq rfl rfl rfl) ?_
  refine rk_gv rfl rfl rfl rfl rfl (fun wq hQ => ov_move rfl rfl) ?_
  first | refine rk_split_dec 18 rfl (fun g2 => ?_) (fun g2 => ?_) | refine rk_split 18 rfl (fun g2 => ?_) (fun g2 => ?_)
  ·refine rk_gv rfl rfl rfl rfl rfl (fun wq hQ => ov_fieldS rfl Try.underlying127 rfl (fo := 0) rfl (by kernel_rfl) rfl) ?_
   refine rk_gv rfl rfl rfl rfl rfl (fun wq hQ => ov_load rfl Try.underlying2 rfl rfl (by exact (hQ.own).cellL 0 rfl (off := 0) rfl)) ?_
   refine rk_gv rfl rfl rfl rfl rfl (fun wq hQ => ov_fieldS rfl Try.underlying127 rfl (fo := 0) rfl (by kernel_rfl) rfl) ?_
   refine rk_gv rfl rfl rfl rfl rfl (fun wq hQ => ov_load rfl Try.underlying2 rfl rfl (by exact (hQ.own).cellL 1 rfl (off := 0) rfl)) ?_
   refine rk_gv rfl rfl rfl rfl rfl (fun wq hQ => ov_geq rfl rfl rfl) ?_
   refine rk_gv rfl rfl rfl rfl rfl (fun wq hQ => ov_pick_t rfl rfl rfl) ?_
   refine rk_v rfl rfl rfl (fun wq hQ => ov_pick_f rfl rfl rfl) ?_
   refine rk_v rfl rfl rfl (fun wq hQ => ov_assign rfl rfl) ?_
   refine rk_nil (fun w19 hQ => ?_)
   refine run_ret Try.func65 (res1 Try.results65 rfl) ?_
   exact ⟨by unfold alwF; simp [g1, g2], (hQ.own).tail.tail⟩
  ·refine rk_gskip rfl rfl rfl rfl rfl rfl <| rk_gskip rfl rfl rfl rfl rfl rfl <| rk_gskip rfl rfl rfl rfl rfl rfl <| rk_gskip rfl rfl rfl rfl rfl rfl <| rk_gskip rfl rfl rfl rfl rfl rfl <| rk_gv rfl rfl rfl rfl rfl (fun wq hQ => ov_pick_f rfl rfl rfl) ?_
   refine rk_v rfl rfl rfl (fun wq hQ => ov_pick_f rfl rfl rfl) ?_
   refine rk_v rfl rfl rfl (fun wq hQ => ov_assign rfl rfl) ?_
   refine rk_nil (fun w20 hQ => ?_)
   refine run_ret Try.func65 (res1 Try.results65 rfl) ?_
   exact ⟨by unfold alwF; simp [g1, g2], (hQ.own).tail.tail⟩
structure HM where
 mem : Nat
 mo : Int
 pr : Int → Int
 k : Nat
 mv : Int → Int → Int
 rate : Int
 cap : Int
 hole : Int
 ac : Int → HA
 n : Nat
 ct : Int → Ct
structure HK where
 ma : Option Addr
 mc : Nat
 ab : Nat
 acap : Nat
 ca : Option Addr
 cc : Nat
 blk : Option Blk
def HM.r (X : HM) (K : HK) : HR := ⟨X.mo, X.pr, K.ma, X.k, K.mc, X.rate, X.cap, X.hole, some ⟨K.ab, 0, none⟩, X.mem, K.acap, K.ca, X.n, K.cc⟩
structure HOk (X : HM) (K : HK) (N : List (Option Blk)) : Prop where
 acc : SRow (.slice (some ⟨K.ab, 0, none⟩) X.mem K.acap) 127 15 X.mem (fun i => accL (X.ac i)) K.blk
 mv : SrcS N K.ma 12 X.k (fun i => monL (X.mv i))
 ct : SrcS N K.ca 5 X.n (fun i => ctL (X.ct i))
 cz : ∃ b, 0 < X.n → K.ca = some ⟨b, 0, none⟩
 cc : X.n ≤ K.cc
structure HG (X : HM) : Prop where
 mem : 1 ≤ X.mem ∧ X.mem ≤ 64
 mo : 0 ≤ X.mo ∧ X.mo ≤ 12
 pr : ∀ m : Int, 0 ≤ m → m < 12 → 0 ≤ X.pr m ∧ X.pr m ≤ 1000000
 k : X.k ≤ 64
 mv : ∀ i : Int, 0 ≤ i → i < X.k → Bd (X.mv i) 1000000
 rate : 0 ≤ X.rate ∧ X.rate ≤ 1000
 cap : 0 ≤ X.cap ∧ X.cap ≤ 1000000000000
 hole : 0 ≤ X.hole ∧ X.hole ≤ 100000000000000000
 pos : ∀ i : Int, 0 ≤ i → i < X.mem → Bd (X.ac i).pos 1000000
 cash : ∀ i : Int, 0 ≤ i → i < X.mem → (X.ac i).cash.natAbs ≤ 10000000000000000
 fund : ∀ i : Int, 0 ≤ i → i < X.mem → 0 ≤ (X.ac i).fund ∧ (X.ac i).fund ≤ 10000000000000000
 n : X.n ≤ 1000000
def HAt (B : Nat) (w0 w : World) (hb : Nat) (X : HM) (Pl R : List (Option Blk)) : Prop := ∃ K N, Own B w0 w (houB hb (X.r K) :: K.blk :: (N ++ R)) ∧ HOk X K N ∧ Pl.Sublist N
theorem HG.bd {X : HM} (h : HG X) (K : HK) : HBd (X.r K) X.mv := ⟨h.rate, Nat.le_trans h.k (by decide), h.mv⟩
theorem HG.pbd {X : HM} (h : HG X) : PBd X.pr := ⟨fun m m0 m1 => by have := h.pr m m0 m1; omega⟩
theorem Bd.mono {p : Int → Int} {A C : Nat} (h : Bd p A) (hA : A ≤ C) : Bd p C := fun m m0 m1 => Nat.le_trans (h m m0 m1) hA
theorem SrcS.sub {N M : List (Option Blk)} {ao : Option Addr} {s m : Nat} {G : Int → List Value} (h : SrcS N ao s m G) (hs : N.Sublist M) : SrcS M ao s m G := fun B w0 w hO => h B w0 w (hO.sub hs)
def HM.acct (X : HM) (i : Int) : HA := X.ac (i - 1)
def HM.is (X : HM) (i : Int) : Prop := 1 ≤ i ∧ i ≤ X.mem
instance (X : HM) (i : Int) : Decidable (X.is i) := by unfold HM.is; exact inferInstance
def HM.act (X : HM) (i : Int) : Int := if X.is i then if (X.acct i).out then 5 else 0 else 4
theorem HOk.reads {X : HM} {K : HK} {N H : List (Option Blk)} {B : Nat} {w0 w : World} (hK : HOk X K N) (hO : Own B w0 w H) (k : Nat) (hk : H[k]? = some K.blk) : ∀ i : Int, 0 ≤ i → i < X.mem → ∀ fo, fo < 15 → w.cell? ⟨K.ab, 0 + i.toNat * 15 + fo, none⟩ = some ((accL (X.ac i)).getD fo undef) := by
 obtain ⟨b, e1, h⟩ := hK.acc.openS hO k hk
 intro i i0 i1
 have e2 := e1 (by omega)
 cases e2
 exact h i i0 i1
theorem HOk.readPos {X : HM} {K : HK} {N H : List (Option Blk)} {B : Nat} {w0 w : World} (hK : HOk X K N) (hO : Own B w0 w H) (k : Nat) (hk : H[k]? = some K.blk) {i m : Int} (i0 : 0 ≤ i) (i1 : i < X.mem) (m0 : 0 ≤ m) (m1 : m < 12) : w.cell? ⟨K.ab, 0 + i.toNat * 15 + 2 + m.toNat, none⟩ = some (iv ((X.ac i).pos m)) := by
 have h := hK.reads hO k hk i i0 i1 (2 + m.toNat) (by omega)
 rw [List.getD_eq_getElem?_getD, accL_pos _ m0 m1] at h
 rw [Nat.add_assoc]
 exact h
theorem ndt {p : Prop} {d : Decidable p} (h : (!decide p) = true) : ¬ p := by simpa using h
theorem ndf {p : Prop} {d : Decidable p} (h : (!decide p) = false) : p := by simpa using h
theorem active_any (hb B : Nat) (X : HM) (K : HK) (i : Int) (N H : List (Option Blk)) (w0 w : World) (hO : Own B w0 w H) (k kb : Nat) (hk : H[k]? = some (houB hb (X.r K))) (hkb : H[kb]? = some K.blk) (hK : HOk X K N) (hG : HG X) :
  Calls Try.prog 61 #[ptr hb, iv i] w fun e w' => ∃ pv, e = .returned (.tuple #[pv, iv (X.act i)]) ∧ (X.act i = 0 → pv = .pointer (some ⟨K.ab, 0 + (i - 1).toNat * 15, none⟩) ∧ X.is i ∧ (X.acct i).out = false) ∧ w' = w := by
 have hmem := hG.mem
 refine calls_of_run (F := [(0, _), (1, _)]) Try.func61 rfl Try.ntmps61 rfl rfl <| run_seq <| run_region <| rl_v rfl rfl rfl (ov_assign rfl rfl) <| rl_v rfl rfl rfl (ov_assign rfl rfl) <| rl_nil <| run_seq <| run_seq <| run_region <| rl_v rfl rfl rfl (ov_move rfl rfl) <| rl_v rfl rfl rfl (ov_ptrnil rfl Try.underlying30 rfl) <| rl_nil <| run_cond_f rfl <| run_skip <| run_seq <| run_seq <| run_region <| rl_v rfl rfl rfl (ov_move rfl rfl) <| rl_v rfl rfl rfl (ov_move rfl rfl) ?_
 refine rl_call callable_110 rfl rfl rfl rfl rfl rfl (isMember_any hb B k (X.r K) i _ w0 w hO hk) (fun e1 w2 hp3 => ?_)
 obtain ⟨rfl, hw⟩ := hp3
 refine ⟨_, rfl, ?_⟩
 subst hw
 refine rl_v rfl rfl rfl (ov_not rfl rfl) <| rl_nil ?_
 first | refine run_cond_dec rfl (fun c => ?_) (fun c => ?_) | refine run_cond rfl (fun c => ?_) (fun c => ?_)
 ·have hi : ¬ X.is i := ndt c
  have ea : X.act i = 4 := if_neg hi
  refine run_seq <| run_region <| rl_v rfl rfl rfl (ov_assign rfl rfl) <| rl_v rfl rfl rfl (ov_assign rfl rfl) <| rl_nil <| run_ret Try.func61 (res2 Try.results61 rfl rfl) ?_
  exact ⟨_, by rw [ea], fun h => (by rw [ea] at h; cases h), rfl⟩
 ·have hi : X.is i := ndf c
  have hi2 : 1 ≤ i ∧ i ≤ X.mem := hi
  refine run_skip <| run_seq <| run_region <| rl_v rfl rfl rfl (ov_move rfl rfl) <| rl_v rfl rfl rfl (ov_nil rfl rfl) <| rl_v rfl rfl rfl (ov_fieldS rfl Try.underlying124 rfl (fo := 17) rfl (by kernel_rfl) rfl) ?_
  refine rl_v rfl rfl rfl (ov_load rfl Try.underlying120 rfl rfl (by exact hO.cellL k hk (off := 17) rfl)) ?_
  refine rl_v rfl rfl rfl (ov_move rfl rfl) <| rl_v rfl rfl rfl (ov_sub rfl rfl rfl (by omega)) ?_
  refine rl_v rfl rfl rfl (ov_index rfl Try.underlying120 (by kernel_rfl) (s := 15) rfl rfl ⟨by omega, show i - 1 < (X.mem : Int) by omega⟩ rfl) ?_
  refine rl_v rfl rfl rfl (ov_assign rfl rfl) <| rl_nil <| run_seq <| run_seq <| run_region <| rl_v rfl rfl rfl (ov_move rfl rfl) <| rl_v rfl rfl rfl (ov_nil rfl rfl) <| rl_v rfl rfl rfl (ov_fieldS rfl Try.underlying127 rfl (fo := 14) rfl (by kernel_rfl) rfl) ?_
  refine rl_v rfl rfl rfl (ov_load rfl Try.underlying4 rfl rfl (by exact (show _ = some (.bool (X.acct i).out) from hK.reads hO kb hkb (i - 1) (by omega) (by omega) 14 (by decide)))) ?_
  refine rl_nil ?_
  first | refine run_cond_dec rfl (fun o1 => ?_) (fun o1 => ?_) | refine run_cond rfl (fun o1 => ?_) (fun o1 => ?_)
  ·have ea : X.act i = 5 := (if_pos hi).trans (if_pos o1)
   refine run_seq <| run_region <| rl_v rfl rfl rfl (ov_assign rfl rfl) <| rl_v rfl rfl rfl (ov_assign rfl rfl) <| rl_nil <| run_ret Try.func61 (res2 Try.results61 rfl rfl) ?_
   exact ⟨_, by rw [ea], fun h => (by rw [ea] at h; cases h), rfl⟩
  ·have ea : X.act i = 0 := (if_pos hi).trans (if_neg (by rw [o1]; exact Bool.noConfusion))
   refine run_skip <| run_seq <| run_region <| rl_v rfl rfl rfl (ov_move rfl rfl) <| rl_v rfl rfl rfl (ov_assign rfl rfl) <| rl_v rfl rfl rfl (ov_assign rfl rfl) <| rl_nil <| run_ret Try.func61 (res2 Try.results61 rfl rfl) ?_
   exact ⟨_, by rw [ea], fun _ => ⟨rfl, hi, o1⟩, rfl⟩
end Go.Proofs.Ytfbbagnpdfafjaa
