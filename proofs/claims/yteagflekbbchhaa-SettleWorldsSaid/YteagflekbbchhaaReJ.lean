import Derived.Test.YteagflekbbchhaaReI
import Derived.Test.YteagflekbbchhaaSfO
import Derived.Test.YteagflekbbchhaaQui
set_option maxRecDepth 100000
namespace Go.Proofs.Yteagflekbbchhaa
open Go.RowKit Go.Proofs
theorem WAt.fr {B : Nat} {w0 w : World} {A : WA} {X : MW} {Pl R : List (Option Blk)} (h : WAt B w0 w A X Pl R) : ∃ K N, Own B w0 w (R ++ (K.M A X ++ N)) ∧ WOk X K N ∧ ∀ y ∈ Pl, y ∈ N := by
 obtain ⟨K, N, hO, hK, hPl⟩ := h
 refine ⟨K, N, hO.perm ?_, hK, hPl⟩
 rw [← List.append_assoc]
 exact List.perm_append_comm
theorem WAt.unfr {B : Nat} {w0 w : World} {A : WA} {X : MW} {K : WC} {N R Pl : List (Option Blk)} (hO : Own B w0 w (R ++ (K.M A X ++ N))) (hK : WOk X K N) (hPl : ∀ y ∈ Pl, y ∈ N) : WAt B w0 w A X Pl R :=
 ⟨K, N, hO.perm (List.perm_append_comm.trans (List.Perm.of_eq (List.append_assoc _ _ _))), hK, hPl⟩
theorem memL {N R T : List (Option Blk)} (h : ∀ x ∈ N, x ∈ R) : ∀ x ∈ N, x ∈ R ++ T := fun x hx => List.mem_append_left _ (h x hx)
end Go.Proofs.Yteagflekbbchhaa
