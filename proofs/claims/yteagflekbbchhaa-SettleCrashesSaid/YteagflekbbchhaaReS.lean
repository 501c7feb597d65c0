import Derived.Test.YteagflekbbchhaaReJ
import Derived.Laws.StructEq
set_option maxRecDepth 100000
namespace Go.Proofs.Yteagflekbbchhaa
open Go.RowKit Go.Proofs
theorem longs_same (a1 a2 : Option Addr) (n c1 c2 B : Nat) (G : Int → Int) (H : List (Option Blk)) (w0 w : World) (hO : Own B w0 w H) (h1 : SrcI H a1 n G) (h2 : SrcI H a2 n G) (hn : n ≤ 4000000000000) :
  Calls Try.prog 25 #[.slice a1 n c1, .slice a2 n c2] w fun e w' => e = .returned (.bool true) ∧ Own B w0 w' H :=
 (longs_any a1 a2 n n c1 c2 0 0 B G G H w0 w hO h1 h2 hn).mono fun e w' ⟨b, e1, e2, e3⟩ => ⟨by rw [e1, e2.2 ⟨rfl, fun _ _ _ => rfl⟩], e3⟩
theorem WAt.drewW {B : Nat} {w0 w : World} {A : WA} {X : MW} {Pl R : List (Option Blk)} (h : WAt B w0 w A X Pl R) : WAt B w0 w.drew A X Pl R := by
 obtain ⟨K, N, hO, hK, hPl⟩ := h
 exact ⟨K, N, hO.drew, hK, hPl⟩
theorem WAt.call {f : FuncId} {args : Array Value} {v : Value} {B : Nat} {w0 w : World} {A : WA} {X : MW} {Pl R : List (Option Blk)} (h : WAt B w0 w A X Pl R)
  (hc : ∀ H, Own B w0 w H → (∀ x ∈ R, x ∈ H) → Calls Try.prog f args w fun e w' => e = .returned v ∧ Own B w0 w' H) :
  Calls Try.prog f args w fun e w' => e = .returned v ∧ WAt B w0 w' A X Pl R := by
 obtain ⟨K, N, hO, hK, hPl⟩ := h.fr
 exact (hc _ hO (memL fun x h => h)).mono fun e w' h => ⟨h.1, WAt.unfr h.2 hK hPl⟩
theorem rat3 {X : MW} {K : RK} {n d : Int} {B : Nat} {N H : List (Option Blk)} {w0 w : World} (hn : n = 1 ∨ n = 2) (hG : Good X) (hL : LInv X) (hO : Own B w0 w H) (hN : ∀ x ∈ N, x ∈ H) (hK : XIn N X K) :
  Calls Try.prog 33 #[rwv X K, iv n, iv d] w fun e w' => e = .returned (iv ((X.lg n).state d)) ∧ Own B w0 w' H := by
 have := rat_any X K n d B N H w0 w hn (hG.len (N3.s hn)) hO hN hK
 rwa [at_state hL hG hn d] at this
end Go.Proofs.Yteagflekbbchhaa
