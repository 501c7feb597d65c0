import Derived.Test.YteagflekbbchhaaSfC
import Derived.Test.YteagflekbbchhaaSum
set_option maxRecDepth 100000
namespace Go.Proofs.Yteagflekbbchhaa
open Go.RowKit Go.Proofs
theorem resW {P : Program} {N : Nat} {F : Fr} {w : World} {fn : Func} {t ty : Nat} {b B : Nat} {t2 : TypeId} {w0 : World} {H : List (Option Blk)} {dd : TypeDesc} {vs : List Value} (hr : fn.results = #[.cell t ty]) (hv : Fr.get F t = some (.pointer (some ⟨b, 0, none⟩)))
  (hT : P.underlying ty = some dd) (hd : dd.isRow = true) (hi : (P.info? ty).map (·.size) = some vs.length) (hO : Own B w0 w H) (k : Nat) (hk : H[k]? = some (some (lch b t2 vs))) : ∀ a, Holds N F a → (results fn a.tmps).run P w = .ok (.agg vs.toArray) w := by
 intro a ha
 have h1 := ha.at_ t _ hv
 have h2 := run_loadVar_mid (P := P) w b 0 ty vs dd (hO.rangeL k hk) hT hd hi
 simp [results, hr, Array.getD_eq_getD_getElem?, h1, asAddr, h2]
theorem give_any (m p : Int) (a1 a2 : Option Addr) (n1 n2 c1 c2 : Nat) (B : Nat) (H : List (Option Blk)) (w0 w : World) (hO : Own B w0 w H) :
  Calls Try.prog 15 #[.agg #[iv m, iv p, .slice a1 n1 c1, .slice a2 n2 c2]] w fun e w' => e = .returned (.agg #[iv m, iv p, .slice a1 n1 c1, .slice a2 n2 c2]) ∧ Own B w0 w' H := by
 refine calls_of_run (F := [(0, _)]) Try.func15 rfl Try.ntmps15 rfl rfl <| run_seq <| run_region <| rl_ow rfl (ow_box _ rfl rfl rfl rfl rfl hO) ?_
 rintro _ w1 ⟨b1, rfl, hO2, hs3⟩
 refine rl_ow rfl (ow_alloc _ rfl rfl rfl zero_31 rfl hO2) ?_
 rintro _ w4 ⟨b2, rfl, hO5, hs6⟩
 refine rl_nil <| run_seq <| run_region <| rl_v rfl rfl rfl (ov_fieldS rfl Try.underlying24 rfl (fo := 0) rfl (by kernel_rfl) rfl) ?_
 refine rl_v rfl rfl rfl (ov_load rfl Try.underlying3 rfl rfl (by exact hO5.cellL 1 rfl (off := 0) rfl)) ?_
 refine rl_v rfl rfl rfl (ov_fieldS rfl Try.underlying24 rfl (fo := 1) rfl (by kernel_rfl) rfl) ?_
 refine rl_v rfl rfl rfl (ov_load rfl Try.underlying3 rfl rfl (by exact hO5.cellL 1 rfl (off := 1) rfl)) ?_
 refine rl_v rfl rfl rfl (ov_fieldS rfl Try.underlying24 rfl (fo := 2) rfl (by kernel_rfl) rfl) ?_
 refine rl_v rfl rfl rfl (ov_load rfl Try.underlying22 rfl rfl (by exact hO5.cellL 1 rfl (off := 2) rfl)) ?_
 refine rl_v rfl rfl rfl (ov_fieldS rfl Try.underlying24 rfl (fo := 3) rfl (by kernel_rfl) rfl) ?_
 refine rl_v rfl rfl rfl (ov_load rfl Try.underlying22 rfl rfl (by exact hO5.cellL 1 rfl (off := 3) rfl)) ?_
 refine rl_v rfl rfl rfl (ov_buildL rfl lay_31 rfl (us := [_, _, _, _]) rfl) <| rl_ow rfl (ow_storeW rfl rfl (by kernel_rfl) hO5 0 rfl rfl (by rfl) rfl (by rfl)) ?_
 rintro _ w7 ⟨rfl, hO8, hs9⟩
 refine rl_nil <| run_ret Try.func15 (resW Try.results15 rfl Try.underlying31 rfl (by kernel_rfl) hO8 0 rfl) ?_
 exact ⟨rfl, hO8.tail.tail⟩
theorem longs_any (a1 a2 : Option Addr) (n1 n2 c1 c2 _ _ B : Nat) (G1 G2 : Int → Int) (H : List (Option Blk)) (w0 w : World) (hO : Own B w0 w H) (h1 : SrcI H a1 n1 G1) (h2 : SrcI H a2 n2 G2) (hn : n1 ≤ 4000000000000) :
  Calls Try.prog 25 #[.slice a1 n1 c1, .slice a2 n2 c2] w fun e w' => ∃ b : Bool, e = .returned (.bool b) ∧ (b = true ↔ n1 = n2 ∧ ∀ i : Int, 0 ≤ i → i < n1 → G1 i = G2 i) ∧ Own B w0 w' H := by
 refine calls_of_run (F := [(0, _), (1, _)]) Try.func25 rfl Try.ntmps25 rfl rfl ?_
 have hO0 := Own.init w
 refine run_seq <| run_region <| rl_v rfl rfl rfl (ov_assign rfl rfl) <| rl_nil <| run_seq <| run_seq <| run_region <| rl_v rfl rfl rfl (ov_move rfl rfl) <| rl_v rfl rfl rfl (ov_len rfl Try.underlying22 rfl) <| rl_v rfl rfl rfl (ov_move rfl rfl) <| rl_v rfl rfl rfl (ov_len rfl Try.underlying22 rfl) <| rl_v rfl rfl rfl (ov_neq rfl rfl rfl) <| rl_nil ?_
 first | refine run_cond_dec rfl (fun e1 => ?_) (fun e2 => ?_) | refine run_cond rfl (fun e1 => ?_) (fun e2 => ?_)
 ·refine run_seq <| run_region <| rl_v rfl rfl rfl (ov_assign rfl rfl) <| rl_nil <| run_ret Try.func25 (res1 Try.results25 rfl) ?_
  exact ⟨false, rfl, ⟨fun h => Bool.noConfusion h, fun h => by omega⟩, hO⟩
 ·obtain rfl : n1 = n2 := by omega
  refine run_skip <| run_seq <| run_seq <| run_region <| rl_v rfl rfl rfl (ov_assign rfl rfl) <| rl_nil <| run_block <| Run.keep [0, 1, 5] (F' := [(0, _), (1, _), (5, _)]) rfl <| run_loop1 (fun (i : Int) => [(5, .int .i64 i)]) [0, 1] (fun (i : Int) (w1 : World) => 0 ≤ i ∧ i ≤ n1 ∧ (∀ j : Int, 0 ≤ j → j < i → G1 j = G2 j) ∧ Own B w0 w1 H) (fun (i : Int) => ((n1 : Int) - i).toNat) (0) ?_ (And.intro (by exact slot_int rfl (by first | omega)) (And.intro rfl (And.intro rfl trivial))) ?_
  ·exact ⟨by omega, by omega, fun j h0 h1 => by omega, hO⟩
  intro i w1 hIw1 ih2
  obtain ⟨hi0, hi1, hall, hOw⟩ := hIw1
  show Run _ _ _ _ [(5, _), (0, _), (1, _)] _ _
  refine run_seq <| run_seq <| run_region <| rl_v rfl rfl rfl (ov_move rfl rfl) <| rl_v rfl rfl rfl (ov_move rfl rfl) <| rl_v rfl rfl rfl (ov_len rfl Try.underlying22 rfl) <| rl_v rfl rfl rfl (ov_lss rfl rfl rfl) <| rl_nil ?_
  first | refine run_cond_dec rfl (fun hlt => ?_) (fun hlt => ?_) | refine run_cond rfl (fun hlt => ?_) (fun hlt => ?_)
  ·obtain ⟨g1, o1, ha1, hr1⟩ := (h1 B w0 w1 hOw).open
   obtain ⟨g2, o2, ha2, hr2⟩ := (h2 B w0 w1 hOw).open
   refine run_skip <| run_seq <| run_block <| run_seq <| run_quiet mixed (by kernel_rfl) ?_
   refine rq_v rfl rfl rfl (fun _ => ov_move rfl rfl) ?_
   refine rq_v rfl rfl rfl (fun _ => ov_move rfl rfl) ?_
   refine rq_v rfl rfl rfl (fun _ => ov_index1 rfl Try.underlying22 (by kernel_rfl) rfl rfl ⟨by omega, by omega⟩ (by exact (ha1 (by omega)))) ?_
   refine rq_v rfl rfl rfl (fun _ => ov_load rfl Try.underlying2 rfl rfl (by show World.cell? w1 _ = _; first | exact hr1 _ (Below.refl _ _) i (by omega) (by omega))) ?_
   refine rq_v rfl rfl rfl (fun _ => ov_move rfl rfl) ?_
   refine rq_v rfl rfl rfl (fun _ => ov_move rfl rfl) ?_
   refine rq_v rfl rfl rfl (fun _ => ov_index1 rfl Try.underlying22 (by kernel_rfl) rfl rfl ⟨by omega, by omega⟩ (by exact (ha2 (by omega)))) ?_
   refine rq_v rfl rfl rfl (fun _ => ov_load rfl Try.underlying2 rfl rfl (by show World.cell? w1 _ = _; first | exact hr2 _ (Below.refl _ _) i (by omega) (by omega))) ?_
   refine rq_v rfl rfl rfl (fun _ => ov_neq rfl rfl rfl) ?_
   refine rq_nil (fun n3 => ?_)
   have hO5 := hOw.drewN n3
   generalize World.drewN w1 n3 = w4 at hO5 ⊢
   first | refine run_cond_dec rfl (fun d1 => ?_) (fun d2 => ?_) | refine run_cond rfl (fun d1 => ?_) (fun d2 => ?_)
   ·refine run_seq <| run_region <| rl_v rfl rfl rfl (ov_assign rfl rfl) <| rl_nil <| run_ret Try.func25 (res1 Try.results25 rfl) ?_
    exact ⟨false, rfl, ⟨fun h => Bool.noConfusion h, fun h => absurd (h.2 i hi0 hlt) d1⟩, hO5⟩
   ·refine run_skip <| run_inBlock <| run_region <| rl_v rfl rfl rfl (ov_move rfl rfl) <| rl_v rfl rfl rfl (ov_add rfl rfl rfl (by omega)) ?_
    refine rl_v rfl rfl rfl (ov_assign rfl rfl) <| rl_nil ?_
    refine Run.use (ih2 _ _ ?_ ?_) (And.intro (by rfl) (And.intro rfl (And.intro rfl trivial)))
    ·first | omega | (dsimp only; omega)
    ·exact ⟨by omega, by omega, fun j h0 h1' => (by omega : j = i ∨ j < i).elim (fun e => by rw [e]; omega) (fun e => hall j h0 e), hO5⟩
  ·refine run_exit rfl <| run_seq <| run_region <| rl_v rfl rfl rfl (ov_assign rfl rfl) <| rl_nil <| run_ret Try.func25 (res1 Try.results25 rfl) ?_
   exact ⟨true, rfl, ⟨fun _ => ⟨rfl, fun j h0 h1' => hall j h0 (by omega)⟩, fun _ => rfl⟩, hOw⟩
end Go.Proofs.Yteagflekbbchhaa
