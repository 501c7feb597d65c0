import Derived.Test.YtfbbagnpdfafjaaHaY
set_option maxRecDepth 100000
namespace Go.Proofs.Ytfbbagnpdfafjaa
open Go.RowKit Go.Proofs
theorem newE_zero {mem mon : Int} {pn mn : Nat} {P : Int → Int} {L : Int → Nat} {F : Int → Int → Int} {rate cap : Int} (h1 : ¬ BadA mem mon rate cap) (h2 : ¬ BadB mon pn mn L) (h3 : ¬ BadC pn P) (h4 : ¬ BadD mn L F) : newE mem mon pn mn P L F rate cap = 0 := (if_neg h1).trans ((if_neg h2).trans (if_neg fun h => h.elim h3 h4))
theorem newGood (mem mon : Int) (pa ma : Option Addr) (pn pc mn mc : Nat) (rate cap : Int) (P : Int → Int) (L : Int → Nat) (F : Int → Int → Int) (B : Nat) (H : List (Option Blk)) (w0 w : World) (hO : Own B w0 w H) (hP : SrcI H pa pn P) (hT : TSrc H ma mn L F) (hm : 2 ≤ mem ∧ mem ≤ 64) (hn : 1 ≤ mon ∧ mon ≤ 12) (hr : 0 ≤ rate ∧ rate ≤ 1000) (hc : 0 ≤ cap ∧ cap ≤ 1000000000000) (hpn : (pn : Int) = mon) (hmn : mn ≤ 64) (hL : ∀ i : Int, 0 ≤ i → i < mn → (L i : Int) = mon) (hPr : ∀ i : Int, 0 ≤ i → i < pn → 1 ≤ P i ∧ P i ≤ 1000000) (hF : ∀ i : Int, 0 ≤ i → i < mn → ∀ m : Int, 0 ≤ m → m < L i → -1000000 ≤ F i m ∧ F i m ≤ 1000000) :
  Calls Try.prog 17 #[.agg (cfL mem mon pa pn pc ma mn mc rate cap).toArray] w fun e w' => ∃ hb, e = .returned (.tuple #[ptr hb, iv 0]) ∧ HAt B w0 w' hb (HM.new mem mon mn P F rate cap) [] H := by
 have h0 : newE mem mon pn mn P L F rate cap = 0 := newE_zero (fun h => h.elim (fun h => h hm) fun h => h.elim (fun h => h hn) fun h => h.elim (fun h => h hr) fun h => h hc) (fun h => h.elim (fun h => h hpn) fun h => h.elim (fun h => by omega) fun ⟨i, i0, i1, h⟩ => h (hL i i0 i1)) (fun ⟨i, i0, i1, h⟩ => h (hPr i i0 i1)) (fun ⟨i, i0, i1, m, m0, m1, h⟩ => h (hF i i0 i1 m m0 m1))
 exact (new_any mem mon pa ma pn pc mn mc rate cap P L F B H w0 w hO hP hT (by omega) (by omega) (fun i i0 i1 => by have := hL i i0 i1; omega)).mono fun e w' h => h.elim (fun h => absurd h0 h.1) (fun h => h.2)
theorem HAt.fr {B : Nat} {w0 w : World} {hb : Nat} {X : HM} {Pl R : List (Option Blk)} (h : HAt B w0 w hb X Pl R) : Own B w0 w R := by
 obtain ⟨K, N, hO, _⟩ := h
 exact hO.sub (.cons _ (.cons _ (List.sublist_append_right N R)))
end Go.Proofs.Ytfbbagnpdfafjaa
