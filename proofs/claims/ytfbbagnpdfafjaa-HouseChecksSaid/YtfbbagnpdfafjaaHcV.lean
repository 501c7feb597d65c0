import Derived.Test.YtfbbagnpdfafjaaHaZ
import Derived.Test.YtfbbagnpdfafjaaHcN
import Derived.Test.YtfbbagnpdfafjaaHaX
set_option maxRecDepth 100000
namespace Go.Proofs.Ytfbbagnpdfafjaa
open Go.RowKit Go.Proofs
def actL (k a b m q p n : Int) : List Value := [iv k, iv a, iv b, iv m, iv q, iv p, iv n]
end Go.Proofs.Ytfbbagnpdfafjaa
set_option maxRecDepth 100000
namespace Go.Proofs.Ytfbbagnpdfafjaa
open Go.RowKit Go.Proofs
theorem perm_in {a b : Option Blk} (A N R : List (Option Blk)) : (A ++ (a :: b :: (N ++ R))).Perm (a :: b :: (N ++ (A ++ R))) :=
 (List.perm_append_comm_assoc A [a, b] (N ++ R)).trans (.cons _ (.cons _ (List.perm_append_comm_assoc A N R)))
theorem HAt.puts {B : Nat} {w0 w : World} {hb : Nat} {X : HM} {Pl R N : List (Option Blk)} {K : HK} (xs : List (Option Blk)) (hO : Own B w0 w (xs ++ (houB hb (X.r K) :: K.blk :: (N ++ R)))) (hK : HOk X K N) (hPl : Pl.Sublist N) : HAt B w0 w hb X Pl (xs ++ R) := ⟨K, N, hO.perm (perm_in xs N R), hK, hPl⟩
theorem HAt.pull {B : Nat} {w0 w : World} {hb : Nat} {X : HM} {Pl R : List (Option Blk)} (xs T : List (Option Blk)) (h : HAt B w0 w hb X Pl (T ++ (xs ++ R))) : ∃ K N, Own B w0 w (xs ++ (houB hb (X.r K) :: K.blk :: (N ++ (T ++ R)))) ∧ HOk X K N ∧ Pl.Sublist N := by
 obtain ⟨K, N, hO, hK, hPl⟩ := h
 refine ⟨K, N, hO.perm (.trans ?_ (perm_in xs N (T ++ R)).symm), hK, hPl⟩
 exact .cons _ (.cons _ (List.Perm.append_left N (List.perm_append_comm_assoc T xs R)))
section
variable {hb B : Nat} {X : HM} {K : GK} {Pl R R0 : List (Option Blk)} {w0 w : World} {j : Nat} (h : HAt B w0 w hb X Pl R) (hI : GIn R0 X K) (hs : R0.Sublist R) (hX : HB j X) (hj : j < 100)
include h hI hs hX hj
end
end Go.Proofs.Ytfbbagnpdfafjaa
set_option maxRecDepth 100000
namespace Go.Proofs.Ytfbbagnpdfafjaa
open Go.RowKit Go.Proofs
theorem HAt.refN {f : FuncId} {args : Array Value} {B : Nat} {w0 w : World} {hb : Nat} {X Y : HM} {Pl R R0 : List (Option Blk)} (h : HAt B w0 w hb X Pl R) (hs : R0.Sublist R)
  (hc : ∀ H, Own B w0 w H → R0.Sublist H → Calls Try.prog f args w fun e w' => ∃ v, e = .returned v ∧ GNew B w0 w' v Y R0 H) :
  Calls Try.prog f args w fun e w' => ∃ T L, e = .returned (.agg (ghL Y L).toArray) ∧ GIn (T ++ R0) Y L ∧ HAt B w0 w' hb X Pl (T ++ R) := by
 obtain ⟨K1, N, hO, hK1, hPl⟩ := h
 refine (hc _ hO (.cons _ (.cons _ (hs.trans (List.sublist_append_right _ _))))).mono fun e w' ⟨v, h1, h2⟩ => ?_
 obtain ⟨L, pb, ab, cb, qb, rfl, hG, hO2⟩ := h2
 exact ⟨pb :: ab :: cb :: (List.range Y.mem).map qb, L, h1, hG.gin (.refl _), K1, N, hO2.perm (perm_in (pb :: ab :: cb :: (List.range Y.mem).map qb) N R), hK1, hPl⟩
end Go.Proofs.Ytfbbagnpdfafjaa
set_option maxRecDepth 100000
namespace Go.Proofs.Ytfbbagnpdfafjaa
open Go.RowKit Go.Proofs
def HM.oth (X : HM) (i j : Int) : Prop := j ≠ i - 1 ∧ (X.ac j).out = false
instance (X : HM) (i j : Int) : Decidable (X.oth i j) := by unfold HM.oth; exact inferInstance
end Go.Proofs.Ytfbbagnpdfafjaa
set_option maxRecDepth 100000
namespace Go.Proofs.Ytfbbagnpdfafjaa
open Go.RowKit Go.Proofs
theorem ov_ptrne {N : Nat} {o : Oper} {F : Fr} {w : World} {T U E : TypeId} {x : Operand} {ad : Option Addr} (ho : o.op = .binOp .neq T x (.const (.pointer none)) U) (hT : Try.prog.underlying T = some (.pointer E)) (hx : Fr.ev F x = some (.pointer ad)) : OpV Try.prog N o F w (.bool (!ad.isNone)) := by
 intro a ha
 have hn : a.eval (.const (.pointer none)) = .pointer none := rfl
 have h0 : (Op.equal T (.pointer ad) (.pointer none)).run Try.prog w = .ok ad.isNone w := by
  unfold Op.equal Op.maxDepth Op.equalIn
  rw [Sem.run_bind, run_underlying hT]
  cases ad <;> simp [Result.andThen]
 unfold execOp
 simp only [ho, ha.ev hx, hn, Sem.run_bind, eqGuard]
 simp [binOp, h0, Result.andThen]
end Go.Proofs.Ytfbbagnpdfafjaa
