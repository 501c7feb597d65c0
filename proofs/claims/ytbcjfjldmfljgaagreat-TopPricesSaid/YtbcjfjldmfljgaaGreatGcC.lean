import Derived.Test.YtbcjfjldmfljgaaGreatGaQ
import Derived.Test.YtbcjfjldmfljgaaGreatGcB
set_option maxRecDepth 100000
namespace Go.Proofs.YtbcjfjldmfljgaaGreat
open Go.RowKit Go.Proofs Go.MapKept
theorem sortStableR7_any (gf : Nat) (hcl : Callable Tryz.prog gf) (caps : Array Value) (f Y : Int → Int) (va : Option Addr) (vc n B : Nat) (c : Option Blk) (H : List (Option Blk)) (w0 w : World) (hr : IRow (.slice va n vc) 3 n (fun j => iv (Y j)) c) (hO : Own B w0 w (c :: H)) (hcmp : ∀ x, CmpS gf caps f Y n B w0 (x :: H))
  (hn : n ≤ 20) (hY : ∀ a b : Int, 0 ≤ a → a < b → b < n → Y a < Y b) :
  Calls Tryz.prog 14 #[.slice va n vc, .func (.func gf) #[] caps] w fun e w' => e = .returned (.tuple #[]) ∧ ∃ (Z : Int → Int) (c' : Option Blk), IRow (.slice va n vc) 3 n (fun j => iv (Z j)) c' ∧ SrtS f Y n Z n ∧ Own B w0 w' (c' :: H) := by
 by_cases h0 : n = 0
 ·subst h0
  refine (sortNone7_any (.func (.func gf) #[] caps) va vc w).mono fun e w' ⟨he, hO2⟩ => ⟨he, Y, c, hr, ⟨fun v => Iff.rfl, fun a b _ _ _ _ => by omega, fun a _ _ => rfl, fun a b _ _ _ => by omega⟩, hO.join hO2⟩
 ·obtain ⟨b, G, rfl, h1, h2, rfl, h3⟩ := hr.asV (by omega)
  refine (sortStable7_any gf hcl caps f Y b vc n B G H w0 w hO (fun G => hcmp _) (by omega) h1 h3 hY).mono fun e w' ⟨he, G', g', hG', hs, hO'⟩ => ⟨he, g', _, IRow.ofV h1 h2 fun i i0 i1 => hG' i i0 i1, hs, hO'⟩
end Go.Proofs.YtbcjfjldmfljgaaGreat
