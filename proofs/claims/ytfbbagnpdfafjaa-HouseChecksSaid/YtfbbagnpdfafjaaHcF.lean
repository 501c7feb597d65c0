import Derived.Test.YtfbbagnpdfafjaaHcB
set_option maxRecDepth 100000
namespace Go.Proofs.Ytfbbagnpdfafjaa
open Go.RowKit Go.Proofs
def GNew (B : Nat) (w0 w : World) (v : Value) (X : HM) (R H : List (Option Blk)) : Prop := ∃ K pb ab cb qb, v = .agg (ghL X K).toArray ∧ GRo R X K pb ab cb qb ∧ Own B w0 w (GL X pb ab cb qb H)
end Go.Proofs.Ytfbbagnpdfafjaa
set_option maxRecDepth 100000
namespace Go.Proofs.Ytfbbagnpdfafjaa
open Go.RowKit Go.Proofs
theorem get_aft {qb : Nat → Option Blk} {m : Nat} {T : List (Option Blk)} (k : Nat) : ((List.range m).map qb ++ T)[m + k]? = T[k]? := by
 rw [List.getElem?_append_right (by simp)]
 simp
theorem set_aft {qb : Nat → Option Blk} {m : Nat} {T : List (Option Blk)} (k : Nat) (x : Option Blk) : ((List.range m).map qb ++ T).set (m + k) x = (List.range m).map qb ++ T.set k x := by
 rw [List.set_append_right _ _ (by simp)]
 simp
theorem get_aft3 {a b c x : Option Blk} {qb : Nat → Option Blk} {m : Nat} {T : List (Option Blk)} (k : Nat) (h : T[k]? = some x) : (a :: b :: c :: ((List.range m).map qb ++ T))[m + k + 3]? = some x := (get_aft k).trans h
theorem get_aft4 {a b c d x : Option Blk} {qb : Nat → Option Blk} {m : Nat} {T : List (Option Blk)} (k : Nat) (h : T[k]? = some x) : (a :: b :: c :: d :: ((List.range m).map qb ++ T))[m + k + 4]? = some x := (get_aft k).trans h
theorem Own.setAft {B : Nat} {w0 w : World} {a b c x : Option Blk} {qb : Nat → Option Blk} {m k : Nat} {T : List (Option Blk)} (h : Own B w0 w ((a :: b :: c :: ((List.range m).map qb ++ T)).set (m + k + 3) x)) : Own B w0 w (a :: b :: c :: ((List.range m).map qb ++ T.set k x)) := by
 have e : (a :: b :: c :: ((List.range m).map qb ++ T)).set (m + k + 3) x = a :: b :: c :: (((List.range m).map qb ++ T).set (m + k) x) := rfl
 rw [e, set_aft] at h
 exact h
theorem sub_aft {a b c : Option Blk} {qb : Nat → Option Blk} {m : Nat} {T S : List (Option Blk)} (h : S.Sublist T) : S.Sublist (a :: b :: c :: ((List.range m).map qb ++ T)) := .cons _ (.cons _ (.cons _ (h.trans (List.sublist_append_right _ _))))
theorem perm_aft {a b c x y : Option Blk} {M T : List (Option Blk)} : (a :: b :: c :: (M ++ (x :: y :: T))).Perm (y :: a :: b :: c :: (M ++ (x :: T))) := by
 have h := List.perm_middle (a := y) (l₁ := a :: b :: c :: (M ++ [x])) (l₂ := T)
 simpa [List.append_assoc] using h
def ghz : List Value := [.int .i64 0, .int .i64 0, .slice none 0 0, .slice none 0 0, .int .i64 0, .int .i64 0, .slice none 0 0, .slice none 0 0, .slice none 0 0, .int .i64 0, .int .i64 0]
end Go.Proofs.Ytfbbagnpdfafjaa
