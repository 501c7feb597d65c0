import Derived.Test.YtlldeifbfpmbaaaGreatFoL
import Derived.Test.YtlldeifbfpmbaaaGreatFjA
import Derived.Test.YtlldeifbfpmbaaaGreatFcB
set_option maxRecDepth 100000
namespace Go.Proofs.YtlldeifbfpmbaaaGreat
open Go.RowKit Go.Proofs Go.MapKept
theorem all5_any (tb : Nat) (f : Fair) (w : World) (hV : Valid5 f f.m) (hm12 : f.m ≤ 12) (h : PT w.heap.size w tb f) :
  Calls Tryz.prog 41 #[ptr tb] w fun e w' => ∃ (bo bt ob : Nat) (rf : Int → Value) (N : Int → Nat) (X : Int → Int → Int) (T : List (Option Blk)) (l1 l2 nb : Int → Int), e = .returned (.func (.func 74) #[] #[ptr bo, ptr bt]) ∧ Own w.heap.size w w' (some (lch bo 22 [.slice (some ⟨ob, 0, none⟩) f.n f.n]) :: some (lch bt 80 [ptr tb]) :: some (vch ob 23 f.n rf) :: T) ∧ f.Best l1 ∧ f.AS l2 nb ∧ (∀ b : Int, 0 ≤ b → b < f.m → Done f l2 nb b) ∧ ∀ g : Int, 0 ≤ g → g < f.n → RdR T (rf g) (N g) (X g) ∧ OptR f l1 l2 g (N g) (X g) := by
 refine calls_of_run (F := [(0, _)]) Tryz.func41 rfl Tryz.ntmps41 rfl rfl ?_
 have hO0 := Own.init w
 refine run_seq <| run_region <| rl_ow rfl (ow_box _ rfl rfl rfl rfl rfl hO0) ?_
 rintro _ w1 ⟨bt, rfl, hO2, hs3⟩
 refine rl_v rfl rfl rfl (ov_assign rfl rfl) <| rl_nil <| run_seq <| run_region <| rl_v rfl rfl rfl (ov_load rfl Tryz.underlying80 rfl rfl (by exact hO2.cellL 0 rfl (off := 0) rfl)) ?_
 refine rl_call callable_73 rfl rfl rfl rfl rfl rfl (within_any tb f _ hV hm12 (hO2.pt h)) (fun e4 w5 hp6 => ?_)
 obtain ⟨ob, rf, N, X, T, l1, l2, nb, rfl, hO1, hB, hA, hD, hR⟩ := hp6
 refine ⟨_, rfl, ?_⟩
 have hO7 := hO2.join hO1
 refine rl_ow rfl (ow_alloc _ rfl rfl rfl zero_22 rfl hO7) ?_
 rintro _ w8 ⟨bo, rfl, hO9, hs10⟩
 refine rl_ow rfl (ow_storeL rfl rfl (by kernel_rfl) hO9 0 rfl rfl rfl rfl rfl) ?_
 rintro _ w11 ⟨rfl, hO12, hs13⟩
 refine rl_nil <| run_seq <| run_region <| rl_v rfl rfl rfl (ov_func rfl rfl rfl) <| rl_v rfl rfl rfl (ov_assign rfl rfl) <| rl_nil <| run_ret Tryz.func41 (res1 Tryz.results41 rfl) ?_
 exact ⟨bo, bt, ob, rf, N, X, T, l1, l2, nb, rfl, hO12.perm ((List.perm_append_comm (l₁ := some (vch ob 23 f.n rf) :: T) (l₂ := [_])).cons _), hB, hA, hD, hR⟩
end Go.Proofs.YtlldeifbfpmbaaaGreat
set_option maxRecDepth 100000
namespace Go.Proofs.YtlldeifbfpmbaaaGreat
open Go.RowKit Go.Proofs Go.MapKept
theorem opt_all {f : Fair} (hf : f.Ok) {l1 l2 nb : Int → Int} (hB : f.Best l1) (hA : f.AS l2 nb) {s : Int → Int} (hs : f.Stab s) {g : Int} (g0 : 0 ≤ g) (g1 : g < f.n) : Opt f l1 l2 g (s g) := by
 have hw := (hB.share hs).who g g0 g1
 rcases hs.poss.at_ g g0 g1 with e | ⟨e1, e2⟩
 ·exact .inl ⟨by rw [hw.2 e]; decide, e⟩
 ·obtain ⟨h1, h2⟩ := hB.best s hs g g0 g1 (by omega)
  refine .inr ⟨h1, e1, e2, h2, ?_⟩
  by_cases c : l2 g < 0
  ·rw [if_pos c]
   have h3 := pigeon (n := f.gl g) (m := f.m) (e := f.ge g) (fun k k0 k1 => hf.gr g k g0 g1 k0 k1) (hf.gd g g0 g1)
   have h4 := e2.1
   omega
  ·rw [if_neg c]
   exact (hA.worst hs g0 g1 (by omega)).2
end Go.Proofs.YtlldeifbfpmbaaaGreat
set_option maxRecDepth 100000
namespace Go.Proofs.YtlldeifbfpmbaaaGreat
open Go.RowKit Go.Proofs Go.MapKept
section
variable (ga ba qa aa xa : Option Addr) (gc bc qc an ac xn xc : Nat) (f : Fair) (a b : Int → Int) (w : World) (hV : Valid5 f f.m) (hF : FAg w.heap.size w ga ba qa f f.m) (han : an ≤ 1000000) (hxn : xn ≤ 1000000) (ha : IAt w.heap.size w aa an (fun i => iv (a i))) (hb : IAt w.heap.size w xa xn (fun i => iv (b i)))
include hV hF han hxn ha hb
end
end Go.Proofs.YtlldeifbfpmbaaaGreat
