import Derived.Test.YtfbbagnpdfafjaaHaZ
import Derived.Test.YtfbbagnpdfafjaaHaR
set_option maxRecDepth 100000
namespace Go.Proofs.Ytfbbagnpdfafjaa
open Go.RowKit Go.Proofs
def HM.mn (X : HM) : Nat := X.mo.toNat
def SrcV (H : List (Option Blk)) (ao : Option Addr) (n : Nat) (G : Int → Value) : Prop := ∀ (B : Nat) (w0 w : World), Own B w0 w H → IAt w.heap.size w ao n G
theorem SrcV.at {R : List (Option Blk)} {ao : Option Addr} {n : Nat} {G : Int → Value} (h : SrcV R ao n G) {B : Nat} {w0 w : World} (hO : Own B w0 w R) (hn : 0 < n) : ∃ b off, ao = some ⟨b, off, none⟩ ∧ ∀ {B : Nat} {w0 w : World}, Own B w0 w R → ∀ i : Int, 0 ≤ i → i < n → w.cell? ⟨b, off + i.toNat, none⟩ = some (G i) := by
 obtain ⟨b, off, e, _⟩ := (h B w0 w hO).open
 refine ⟨b, off, e hn, fun {B' w0' w'} hO' i i0 i1 => ?_⟩
 obtain ⟨b', off', e1, e2⟩ := (h B' w0' w' hO').open
 have e3 := e1 hn
 rw [e hn] at e3
 cases e3
 exact e2 w' (Below.refl _ _) i i0 i1
theorem SrcI.at {R : List (Option Blk)} {ao : Option Addr} {n : Nat} {g : Int → Int} (h : SrcI R ao n g) {B : Nat} {w0 w : World} (hO : Own B w0 w R) (hn : 0 < n) : ∃ b off, ao = some ⟨b, off, none⟩ ∧ ∀ {B : Nat} {w0 w : World}, Own B w0 w R → ∀ i : Int, 0 ≤ i → i < n → w.cell? ⟨b, off + i.toNat, none⟩ = some (iv (g i)) := SrcV.at (G := fun i => iv (g i)) h hO hn
abbrev HM.dim (X : HM) : Nat × Int := (X.mem, X.mo)
theorem dfl_mem (X : HM) (i : Int) : (X.dflt i).dim = X.dim := by
 unfold HM.dflt
 split
 ·split
  ·rw [d7_eq]
  ·rfl
 ·rfl
theorem HAt.drewH {B : Nat} {w0 w : World} {hb : Nat} {X : HM} {Pl R : List (Option Blk)} (h : HAt B w0 w hb X Pl R) : HAt B w0 w.drew hb X Pl R := by
 obtain ⟨K, N, hO, hK, hPl⟩ := h
 exact ⟨K, N, hO.drew, hK, hPl⟩
theorem HAt.call1 {f : FuncId} {args : Array Value} {Q : Ending → Prop} {B : Nat} {w0 w : World} {hb : Nat} {X : HM} {Pl R : List (Option Blk)} (h : HAt B w0 w hb X Pl R)
  (hc : ∀ H, Own B w0 w H → R.Sublist H → Calls Try.prog f args w fun e w' => Q e ∧ Own B w0 w' H) :
  Calls Try.prog f args w fun e w' => Q e ∧ HAt B w0 w' hb X Pl R := by
 obtain ⟨K, N, hO, hK, hPl⟩ := h
 exact (hc _ hO (.cons _ (.cons _ (List.sublist_append_right _ _)))).mono fun e w' h => ⟨h.1, K, N, h.2, hK, hPl⟩
theorem HAt.open {B : Nat} {w0 w : World} {hb : Nat} {X : HM} {Pl R : List (Option Blk)} (h : HAt B w0 w hb X Pl R) : ∃ K N, Own B w0 w (houB hb (X.r K) :: K.blk :: (N ++ R)) ∧ HOk X K N ∧ Pl.Sublist N := h
section
variable (hb B : Nat) (X : HM) (Pl R : List (Option Blk)) (w0 w : World) (h : HAt B w0 w hb X Pl R) (hG : HG X)
include h hG
theorem account_in (i : Int) (hi : X.is i) :
  Calls Try.prog 31 #[ptr hb, iv i] w fun e w' => ∃ v c, e = .returned (.tuple #[.agg #[iv (X.acct i).cash, iv (X.acct i).fund, v, .bool (X.acct i).out], iv 0]) ∧
   IRow v 2 X.mn (fun m => iv ((X.acct i).pos m)) c ∧ HAt B w0 w' hb X Pl (c :: R) := by
 have h1 := account_any hb B X i Pl R w0 w h hG
 rw [show X.kno i = X.acct i from if_pos hi, if_pos hi, if_pos hi] at h1
 exact h1
end
theorem srcRow {E : TypeId} {a : Option Addr} {n p k : Nat} {g : Int → Int} {c : Option Blk} {R : List (Option Blk)} (h : IRow (.slice a n p) E n (fun m => iv (g m)) c) (hk : R[k]? = some c) : SrcI R a n g := fun _ _ _ hO => h.reads hO k hk
theorem HAt.own {B : Nat} {w0 w : World} {hb : Nat} {X : HM} {Pl R : List (Option Blk)} (h : HAt B w0 w hb X Pl R) : Own B w0 w R := h.fr
theorem perm_in {a b : Option Blk} (A N R : List (Option Blk)) : (A ++ (a :: b :: (N ++ R))).Perm (a :: b :: (N ++ (A ++ R))) :=
 (List.perm_append_comm_assoc A [a, b] (N ++ R)).trans (.cons _ (.cons _ (List.perm_append_comm_assoc A N R)))
theorem HAt.puts {B : Nat} {w0 w : World} {hb : Nat} {X : HM} {Pl R N : List (Option Blk)} {K : HK} (xs : List (Option Blk)) (hO : Own B w0 w (xs ++ (houB hb (X.r K) :: K.blk :: (N ++ R)))) (hK : HOk X K N) (hPl : Pl.Sublist N) : HAt B w0 w hb X Pl (xs ++ R) := ⟨K, N, hO.perm (perm_in xs N R), hK, hPl⟩
theorem HAt.pull {B : Nat} {w0 w : World} {hb : Nat} {X : HM} {Pl R : List (Option Blk)} (xs T : List (Option Blk)) (h : HAt B w0 w hb X Pl (T ++ (xs ++ R))) : ∃ K N, Own B w0 w (xs ++ (houB hb (X.r K) :: K.blk :: (N ++ (T ++ R)))) ∧ HOk X K N ∧ Pl.Sublist N := by
 obtain ⟨K, N, hO, hK, hPl⟩ := h
 refine ⟨K, N, hO.perm (.trans ?_ (perm_in xs N (T ++ R)).symm), hK, hPl⟩
 exact .cons _ (.cons _ (List.Perm.append_left N (List.perm_append_comm_assoc T xs R)))
end Go.Proofs.Ytfbbagnpdfafjaa
