import Derived.Test.YtfbbagnpdfafjaaHcM
import Derived.Laws.StructEq
import Derived.Test.YtfbbagnpdfafjaaHaZ
set_option maxRecDepth 100000
namespace Go.Proofs.Ytfbbagnpdfafjaa
open Go.RowKit Go.Proofs
theorem eqF_same {P : Program} {w : World} {d : Nat} {xs : Array Value} : ∀ (fs : List Field), (∀ f ∈ fs, ∃ (kk : IntKind) (m : Int), P.underlying f.type = some (.int kk) ∧ xs[f.offset]? = some (.int kk m)) → (Op.eqFields (d + 1) xs xs fs).run P w = .ok true w
 | [], _ => rfl
 | f :: fs, h => by
  obtain ⟨kk, m, hu, hx⟩ := h f (List.mem_cons_self ..)
  have hp : (part f.type xs f.offset).run P w = .ok (.int kk m) w := by simp [part, isAgg, run_underlying hu, hx]
  have he : (Op.equalIn (d + 1) f.type (.int kk m) (.int kk m)).run P w = .ok true w := by rw [run_equalIn_int w d f.type kk kk m m hu]; simp
  have ih := eqF_same (w := w) (d := d) fs fun g hg => h g (List.mem_cons_of_mem _ hg)
  unfold Op.eqFields
  split
  ·simp [hp, he, ih, Result.andThen]
  ·exact ih
section
variable {P : Program} {f N : Nat} {ops : Array Oper} {k : List Item} {F : Fr} {w : World} {R : Ending → World → Prop} {S : World → Prop} {fuel : Nat} {listed : Array Bool}
theorem rh_yes (g : Nat) {b : Bool} (hb : Fr.get F g = some (.bool b)) (h : b = true) (hf : RH P f N ops S fuel listed k ((g, .bool true) :: F) w R) : RH P f N ops S fuel listed k F w R :=
 fun a ha => hf a (holds_at ha (by rw [hb, h]))
theorem rh_yesD (g : Nat) {p : Prop} {dp : Decidable p} (hb : Fr.get F g = some (.bool (decide p))) (h : p) (hf : RH P f N ops S fuel listed k ((g, .bool true) :: F) w R) : RH P f N ops S fuel listed k F w R :=
 rh_yes g hb (decide_eq_true h) hf
end
theorem HAt.own {B : Nat} {w0 w : World} {hb : Nat} {X : HM} {Pl R : List (Option Blk)} (h : HAt B w0 w hb X Pl R) : Own B w0 w R := h.fr
end Go.Proofs.Ytfbbagnpdfafjaa
set_option maxRecDepth 100000
namespace Go.Proofs.Ytfbbagnpdfafjaa
open Go.RowKit Go.Proofs
structure HActs where
 k : Int → Int
 a : Int → Int
 b : Int → Int
 m : Int → Int
 q : Int → Int
 p : Int → Int
 n : Int → Int
def actL (k a b m q p n : Int) : List Value := [iv k, iv a, iv b, iv m, iv q, iv p, iv n]
def HActs.l (S : HActs) : Int → List Value := fun i => actL (S.k i) (S.a i) (S.b i) (S.m i) (S.q i) (S.p i) (S.n i)
abbrev HM.dim (X : HM) : Nat × Int := (X.mem, X.mo)
theorem dep_mem (X : HM) (i a : Int) : (X.deposit i a).dim = X.dim := by unfold HM.deposit; split <;> rfl
theorem spe_mem (X : HM) (i a : Int) : (X.spent i a).dim = X.dim := by unfold HM.spent; split <;> rfl
theorem cot_mem (X : HM) (i a : Int) : (X.contrib i a).dim = X.dim := by unfold HM.contrib; split <;> rfl
theorem tra_mem (X : HM) (c : Ct) : (X.trade c).dim = X.dim := by unfold HM.trade; split <;> rfl
theorem del_mem (X : HM) (c : Ct) : (X.deliver c).dim = X.dim := by unfold HM.deliver; split <;> rfl
theorem mar_mem (X : HM) (m p : Int) : (X.mark m p).dim = X.dim := by unfold HM.mark; split <;> rfl
theorem dfl_mem (X : HM) (i : Int) : (X.dflt i).dim = X.dim := by
 unfold HM.dflt
 split
 ·split
  ·rw [d7_eq]
  ·rfl
 ·rfl
theorem u64_12 (x : Int) : 0 ≤ IntKind.u64.wrap x % 12 ∧ IntKind.u64.wrap x % 12 < 12 := ⟨Int.emod_nonneg _ (by decide), Int.emod_lt_of_pos _ (by decide)⟩
end Go.Proofs.Ytfbbagnpdfafjaa
set_option maxRecDepth 100000
namespace Go.Proofs.Ytfbbagnpdfafjaa
open Go.RowKit Go.Proofs
theorem perm_in {a b : Option Blk} (A N R : List (Option Blk)) : (A ++ (a :: b :: (N ++ R))).Perm (a :: b :: (N ++ (A ++ R))) :=
 (List.perm_append_comm_assoc A [a, b] (N ++ R)).trans (.cons _ (.cons _ (List.perm_append_comm_assoc A N R)))
theorem HAt.puts {B : Nat} {w0 w : World} {hb : Nat} {X : HM} {Pl R N : List (Option Blk)} {K : HK} (xs : List (Option Blk)) (hO : Own B w0 w (xs ++ (houB hb (X.r K) :: K.blk :: (N ++ R)))) (hK : HOk X K N) (hPl : Pl.Sublist N) : HAt B w0 w hb X Pl (xs ++ R) := ⟨K, N, hO.perm (perm_in xs N R), hK, hPl⟩
theorem HAt.pull {B : Nat} {w0 w : World} {hb : Nat} {X : HM} {Pl R : List (Option Blk)} (xs T : List (Option Blk)) (h : HAt B w0 w hb X Pl (T ++ (xs ++ R))) : ∃ K N, Own B w0 w (xs ++ (houB hb (X.r K) :: K.blk :: (N ++ (T ++ R)))) ∧ HOk X K N ∧ Pl.Sublist N := by
 obtain ⟨K, N, hO, hK, hPl⟩ := h
 refine ⟨K, N, hO.perm (.trans ?_ (perm_in xs N (T ++ R)).symm), hK, hPl⟩
 exact .cons _ (.cons _ (List.Perm.append_left N (List.perm_append_comm_assoc T xs R)))
theorem HAt.sheds {B : Nat} {w0 w : World} {hb : Nat} {X : HM} {Pl R R' : List (Option Blk)} (h : HAt B w0 w hb X Pl R) (hs : R'.Sublist R) : HAt B w0 w hb X Pl R' := by
 obtain ⟨K, N, hO, hK, hPl⟩ := h
 exact ⟨K, N, hO.sub (.cons_cons _ (.cons_cons _ (List.Sublist.append_left hs N))), hK, hPl⟩
theorem HAt.ref {f : FuncId} {args : Array Value} {mk : Value → Value} {E : Int} {B : Nat} {w0 w : World} {hb : Nat} {X Y : HM} {K : GK} {Pl R R0 : List (Option Blk)} (h : HAt B w0 w hb X Pl R) (hI : GIn R0 X K) (hs : R0.Sublist R) (hY : E ≠ 0 → Y = X)
  (hc : ∀ H, Own B w0 w H → R0.Sublist H → Calls Try.prog f args w fun e w' => ∃ v, e = .returned (mk v) ∧ ((E = 0 ∧ GNew B w0 w' v Y R0 H) ∨ (E ≠ 0 ∧ GSame B w0 w' v X K H))) :
  Calls Try.prog f args w fun e w' => ∃ T L, e = .returned (mk (.agg (ghL Y L).toArray)) ∧ GIn (T ++ R0) Y L ∧ HAt B w0 w' hb X Pl (T ++ R) := by
 obtain ⟨K1, N, hO, hK1, hPl⟩ := h
 refine (hc _ hO (.cons _ (.cons _ (hs.trans (List.sublist_append_right _ _))))).mono fun e w' ⟨v, h1, h2⟩ => ?_
 rcases h2 with ⟨h0, L, pb, ab, cb, qb, rfl, hG, hO2⟩ | ⟨h0, rfl, hO2⟩
 ·exact ⟨pb :: ab :: cb :: (List.range Y.mem).map qb, L, h1, hG.gin (.refl _), K1, N, hO2.perm (perm_in (pb :: ab :: cb :: (List.range Y.mem).map qb) N R), hK1, hPl⟩
 ·exact ⟨[], K, by rw [hY h0]; exact h1, by rw [hY h0]; exact hI, K1, N, hO2, hK1, hPl⟩
section
variable {hb B : Nat} {X : HM} {K : GK} {Pl R R0 : List (Option Blk)} {w0 w : World} {j : Nat} (h : HAt B w0 w hb X Pl R) (hI : GIn R0 X K) (hs : R0.Sublist R) (hX : HB j X) (hj : j < 100)
include h hI hs hX hj
theorem rDeposit (i a : Int) : Calls Try.prog 74 #[.agg (ghL X K).toArray, iv i, iv a] w fun e w' => ∃ T L, e = .returned (.tuple #[.agg (ghL (X.deposit i a) L).toArray, iv (X.mny i a)]) ∧ GIn (T ++ R0) (X.deposit i a) L ∧ HAt B w0 w' hb X Pl (T ++ R) :=
 HAt.ref (mk := fun v => .tuple #[v, iv (X.mny i a)]) h hI hs (fun h0 => if_neg h0) fun H hO hs' => gDeposit_any X K i a R0 j B H w0 w hO hI hs' hX hj
theorem rWithdraw (i a : Int) : Calls Try.prog 75 #[.agg (ghL X K).toArray, iv i, iv a] w fun e w' => ∃ T L, e = .returned (.tuple #[.agg (ghL (X.spent i a) L).toArray, iv (X.spd i a)]) ∧ GIn (T ++ R0) (X.spent i a) L ∧ HAt B w0 w' hb X Pl (T ++ R) :=
 HAt.ref (mk := fun v => .tuple #[v, iv (X.spd i a)]) h hI hs (fun h0 => if_neg h0) fun H hO hs' => gWithdraw_any X K i a R0 j B H w0 w hO hI hs' hX hj
theorem rContribute (i a : Int) : Calls Try.prog 76 #[.agg (ghL X K).toArray, iv i, iv a] w fun e w' => ∃ T L, e = .returned (.tuple #[.agg (ghL (X.contrib i a) L).toArray, iv (X.spd i a)]) ∧ GIn (T ++ R0) (X.contrib i a) L ∧ HAt B w0 w' hb X Pl (T ++ R) :=
 HAt.ref (mk := fun v => .tuple #[v, iv (X.spd i a)]) h hI hs (fun h0 => if_neg h0) fun H hO hs' => gContribute_any X K i a R0 j B H w0 w hO hI hs' hX hj
theorem rDeliver (i o m q : Int) : Calls Try.prog 78 #[.agg (ghL X K).toArray, iv i, iv o, iv m, iv q] w fun e w' => ∃ T L, e = .returned (.tuple #[.agg (ghL (X.deliver ⟨i, o, m, q, 1⟩) L).toArray, iv (X.dvr ⟨i, o, m, q, 1⟩)]) ∧ GIn (T ++ R0) (X.deliver ⟨i, o, m, q, 1⟩) L ∧ HAt B w0 w' hb X Pl (T ++ R) :=
 HAt.ref (mk := fun v => .tuple #[v, iv (X.dvr ⟨i, o, m, q, 1⟩)]) h hI hs (fun h0 => if_neg h0) fun H hO hs' => gDeliver_any X K i o m q R0 j B H w0 w hO hI hs' hX hj
theorem rMark (m p : Int) : Calls Try.prog 79 #[.agg (ghL X K).toArray, iv m, iv p] w fun e w' => ∃ T L, e = .returned (.tuple #[.agg (ghL (X.mark m p) L).toArray, iv (X.mrk m p)]) ∧ GIn (T ++ R0) (X.mark m p) L ∧ HAt B w0 w' hb X Pl (T ++ R) :=
 HAt.ref (mk := fun v => .tuple #[v, iv (X.mrk m p)]) h hI hs (fun h0 => if_neg h0) fun H hO hs' => gMark_any X K m p R0 j B H w0 w hO hI hs' hX hj
theorem rTrade (c : Ct) (hq : c.q ≤ 100 ∨ 1000000 < c.q) : Calls Try.prog 77 #[.agg (ghL X K).toArray, .agg (ctL c).toArray] w fun e w' => ∃ T L, e = .returned (.tuple #[.agg (ghL (X.trade c) L).toArray, iv (if X.trd c = 0 then X.n + 1 else 0), iv (X.trd c)]) ∧ GIn (T ++ R0) (X.trade c) L ∧ HAt B w0 w' hb X Pl (T ++ R) :=
 HAt.ref (mk := fun v => .tuple #[v, iv (if X.trd c = 0 then X.n + 1 else 0), iv (X.trd c)]) h hI hs (fun h0 => if_neg h0) fun H hO hs' => gTrade_any X K c R0 j B H w0 w hO hI hs' hX hj hq
theorem rDefault (hm20 : X.mem < 20) (i : Int) : Calls Try.prog 82 #[.agg (ghL X K).toArray, iv i] w fun e w' => ∃ T L, e = .returned (.tuple #[.agg (ghL (X.dflt i) L).toArray, .agg (lossV (X.loss i)).toArray, iv (X.act i)]) ∧ GIn (T ++ R0) (X.dflt i) L ∧ HAt B w0 w' hb X Pl (T ++ R) :=
 HAt.ref (mk := fun v => .tuple #[v, .agg (lossV (X.loss i)).toArray, iv (X.act i)]) h hI hs (fun h0 => if_neg h0) fun H hO hs' => gDefault_any X K i R0 j B H w0 w hO hI hs' hX hj hm20 hX.Z
end
def dq (q : Int) : Int := if 100 < q ∧ q ≤ 1000000 then q % 100 else q
def dp (p : Int) : Int := if 400 < p ∧ p ≤ 1000000 then p % 400 else p
theorem dq_rng (q : Int) : dq q ≤ 100 ∨ 1000000 < dq q := by unfold dq; split <;> omega
theorem dp_rng (p : Int) : dp p ≤ 1000 ∨ 1000000 < dp p := by unfold dp; split <;> omega
noncomputable def HM.dstep (X : HM) (k a b m q p n : Int) : HM :=
 if k = 0 ∨ k = 1 then X.deposit a n else if k = 2 then X.spent a n else if k = 3 then X.contrib a n else if k = 4 ∨ k = 5 ∨ k = 6 ∨ k = 7 then X.trade ⟨a, b, m, dq q, dp p⟩ else if k = 8 then X.deliver ⟨a, b, m, dq q, 1⟩ else if k = 9 ∨ k = 10 then X.mark m (dp p) else X.dflt a
theorem HB.tradeD {j : Nat} {X : HM} (h : HB j X) (c : Ct) (hq : c.q ≤ 100 ∨ 1000000 < c.q) : HB (j + 1) (X.trade c) := by
 rcases hq with hq | hq
 ·exact h.trade c hq
 ·unfold HM.trade
  split
  ·rename_i e
   unfold HM.trd at e
   split at e
   ·exact absurd e ‹_›
   ·rename_i e2
    have := (par_zero (Decidable.not_not.1 e2)).q
    omega
  ·exact h.next
theorem HB.dstep {j : Nat} {X : HM} (h : HB j X) (hj : j ≤ 100) (k a b m q p n : Int) : HB (j + 1) (X.dstep k a b m q p n) := by
 unfold HM.dstep
 split
 ·exact h.deposit _ _
 ·split
  ·exact h.spent _ _
  ·split
   ·exact h.contrib _ _
   ·split
    ·exact h.tradeD _ (dq_rng q)
    ·split
     ·exact h.deliver _
     ·split
      ·exact h.mark hj _ _ (dp_rng p)
      ·exact h.dflt hj _
theorem dstep_dim (X : HM) (k a b m q p n : Int) : (X.dstep k a b m q p n).dim = X.dim := by
 unfold HM.dstep
 split
 ·exact dep_mem _ _ _
 ·split
  ·exact spe_mem _ _ _
  ·split
   ·exact cot_mem _ _ _
   ·split
    ·exact tra_mem _ _
    ·split
     ·exact del_mem _ _
     ·split
      ·exact mar_mem _ _ _
      ·exact dfl_mem _ _
theorem ov_eqlS {N : Nat} {o : Oper} {F : Fr} {w : World} {x y : Operand} {U T : TypeId} {xs : Array Value} {fs : Array Field} (ho : o.op = .binOp .eql T x y U) (hT : Try.prog.underlying T = some (.struct fs)) (hsm : ∀ f ∈ fs.toList, ∃ (kk : IntKind) (m : Int), Try.prog.underlying f.type = some (.int kk) ∧ xs[f.offset]? = some (.int kk m))
  (hp : Try.prog.stoodInHeld T = false) (hm : Try.prog.eqGuardType Try.prog.depth T = false) (hx : Fr.ev F x = some (.agg xs)) (hy : Fr.ev F y = some (.agg xs)) : OpV Try.prog N o F w (.bool true) := by
 intro r hr
 have hfo : Try.prog.fieldsOf T = fs := by unfold Program.fieldsOf; rw [hT]
 have h1 : (Op.equalIn 10000 T (.agg xs) (.agg xs)).run Try.prog w = .ok true w := by
  rw [run_equalIn_struct w 9999 T _ _ (by rw [hfo]; exact hT) hp, hfo]
  exact eqF_same (d := 9998) _ hsm
 unfold execOp
 have hg := run_eqGuard_agg (P := Try.prog) w .eql T x y xs xs hm
 simp only [ho, hr.ev hx, hr.ev hy, Sem.run_bind, hg, Result.andThen_ok, run_eql_struct, h1]
 rfl
theorem loss5 (X : HM) (i : Int) : ∃ a b c d e, X.loss i = [a, b, c, d, e] := by
 unfold HM.loss
 split <;> exact ⟨_, _, _, _, _, rfl⟩
theorem sameL (a b c d e : Int) : ∀ f ∈ (Try.prog.fieldsOf 152).toList, ∃ (kk : IntKind) (q : Int), Try.prog.underlying f.type = some (.int kk) ∧ (lossV [a, b, c, d, e]).toArray[f.offset]? = some (.int kk q) := by
 unfold Program.fieldsOf
 rw [Try.underlying152]
 intro f hf
 simp only [List.mem_cons, List.not_mem_nil, or_false] at hf
 rcases hf with rfl | rfl | rfl | rfl | rfl
 ·exact ⟨.i64, a, Try.underlying2, rfl⟩
 ·exact ⟨.i64, b, Try.underlying2, rfl⟩
 ·exact ⟨.i64, c, Try.underlying2, rfl⟩
 ·exact ⟨.i64, d, Try.underlying2, rfl⟩
 ·exact ⟨.i64, e, Try.underlying2, rfl⟩
end Go.Proofs.Ytfbbagnpdfafjaa
