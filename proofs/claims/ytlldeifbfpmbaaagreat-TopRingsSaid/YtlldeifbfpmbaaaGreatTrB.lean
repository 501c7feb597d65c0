import Derived.Test.YtlldeifbfpmbaaaGreatUti
import Derived.Test.YtlldeifbfpmbaaaGreatItk
import Derived.Test.YtlldeifbfpmbaaaGreatFoQ
set_option maxRecDepth 100000
namespace Go.Proofs.YtlldeifbfpmbaaaGreat
open Go.RowKit Go.Proofs Go.MapKept
theorem smallR_any (x : Int) (w : World) : Calls Tryz.prog 32 #[iv x, iv 1000] w fun e w' => e = .returned (iv (x % 18446744073709551616 % 1001)) ∧ Own w.heap.size w w' [] := by
 have hm := modsT (x := x) (m := 1001) ⟨by decide, by decide⟩
 refine calls_of_run (F := [(0, _), (1, _)]) Tryz.func32 rfl Tryz.ntmps32 rfl rfl ?_
 have hO0 := Own.init w
 refine run_seq <| run_region <| rl_v rfl rfl rfl (ov_assign rfl rfl) <| rl_nil <| run_seq <| run_region <| rl_v rfl rfl rfl (ov_move rfl rfl) <| rl_v rfl rfl rfl (ov_conv rfl Tryz.underlying2 Tryz.underlying106 rfl) <| rl_v rfl rfl rfl (ov_move rfl rfl) <| rl_v rfl rfl rfl (ov_add rfl rfl rfl (by omega)) ?_
 refine rl_v rfl rfl rfl (ov_convTo ((show IntKind.u64.wrap (1000 + 1) = 1001 by decide)) rfl Tryz.underlying2 Tryz.underlying106 rfl) ?_
 refine rl_v rfl rfl rfl (ov_rem rfl rfl rfl (u64_nn5 _) (by omega)) ?_
 refine rl_v rfl rfl rfl (ov_convTo (hm.1) rfl Tryz.underlying106 Tryz.underlying2 rfl) <| rl_v rfl rfl rfl (ov_assign rfl rfl) <| rl_nil <| run_ret Tryz.func32 (res1 Tryz.results32 rfl) ?_
 exact ⟨rfl, hO0⟩
theorem own_none1 {B : Nat} {w0 w : World} (n : Nat) {a : Option Blk} (h : Own B w0 w [a]) : Own B w0 w ((a :: (List.range n).map (fun _ => none)) ++ []) := by
 have e : (List.range n).map (fun _ => (none : Option Blk)) = List.replicate n none := by rw [List.map_const', List.length_range]
 rw [e, List.append_nil]
 exact (h.nones n).perm List.perm_append_comm
set_option maxHeartbeats 8000000 in
theorem topRings_any (ga : Option Addr) (n gc : Nat) (GL : Int → Nat) (GE : Int → Int → Int) (z : Int) (w : World) (hG : RTab w.heap.size w ga n GL GE) :
  Calls Tryz.prog 6 #[.slice ga n gc, iv z] w fun e w' => e = .returned (.bool true) ∧ Below w.heap.size w w' := by
 obtain ⟨A, C, hG1, hroom, hrow⟩ := hG
 obtain ⟨gb, go, hga, hgr⟩ := hG1.open
 obtain ⟨N, hN⟩ : ∃ N : Nat, (N : Int) = min (n : Int) 10 := ⟨min n 10, by omega⟩
 have hN8 : N ≤ 10 := by omega
 have hNn : N ≤ n := by omega
 obtain ⟨a, ha⟩ : ∃ a, a = 1 + z % 18446744073709551616 % 1001 := ⟨_, rfl⟩
 have hz := modsT (x := z) (m := 1001) ⟨by decide, by decide⟩
 have ha1 : 1 ≤ a ∧ a ≤ 1001 := by omega
 refine calls_of_run (F := [(0, _), (1, _)]) Tryz.func6 rfl Tryz.ntmps6 rfl rfl ?_
 have hO0 := Own.init w
 refine run_seq <| run_region <| rl_v rfl rfl rfl (ov_assign rfl rfl) <| rl_nil <| run_seq <| run_region <| rl_v rfl rfl rfl (ov_assign rfl rfl) <| rl_nil <| run_seq <| run_region <| rl_v rfl rfl rfl (ov_move rfl rfl) <| rl_v rfl rfl rfl (ov_len rfl Tryz.underlying22 rfl) <| rl_v rfl rfl rfl (ov_min rfl rfl rfl) <| rl_v rfl rfl rfl (ov_assign rfl rfl) <| rl_nil <| run_seq <| run_seq ?_
 rw [← hN]
 refine run_region <| rl_v rfl rfl rfl (ov_assign rfl rfl) <| rl_nil <| run_block <| Run.keep [0, 1, 5, 6, 7] (F' := [(0, _), (1, _), (5, _), (6, _), (7, _)]) rfl <| run_loop2 (fun (i : Nat) (v : Value) => [(7, .int .i64 (i : Int)), (5, v)]) [0, 1, 6] (fun (i : Nat) (v : Value) (w1 : World) => i ≤ N ∧ ∃ (L : Int → Nat) (E : Int → Int → Int) (Hg : List (Option Blk)), OTab v 23 3 i L (fun r c => iv (E r c)) Hg ∧ (∀ r : Int, 0 ≤ r → r < i → IsL (L r) (E r) N ∧ L r ≤ 12) ∧ Own w.heap.size w w1 (Hg ++ [])) (fun (i : Nat) (v : Value) => N - i) (0) (.slice none 0 0) ?_ (And.intro (by exact slot_int rfl (by first | omega)) (And.intro rfl (And.intro rfl (And.intro rfl (And.intro rfl trivial))))) ?_
 ·exact ⟨Nat.zero_le _, fun _ => 0, fun _ _ => 0, [none], OTab.nil _ _ _ _, fun r a b => by omega, hO0.nil_cons⟩
 intro i v w1 hIw1 ih2
 obtain ⟨hi, L, E, Hg, hTg, hL, hO1⟩ := hIw1
 show Run _ _ _ _ [(7, _), (5, _), (0, _), (1, _), (6, _)] _ _
 obtain ⟨co, rv, ch, rfl, hv, h3⟩ := hTg
 refine run_seq <| run_seq <| run_region <| rl_v rfl rfl rfl (ov_move rfl rfl) <| rl_v rfl rfl rfl (ov_move rfl rfl) <| rl_v rfl rfl rfl (ov_lss rfl rfl rfl) <| rl_nil ?_
 first | refine run_cond_dec rfl (fun c1 => ?_) (fun c1 => ?_) | refine run_cond rfl (fun c1 => ?_) (fun c1 => ?_)
 ·refine run_skip <| run_seq <| run_block <| run_region <| rl_v rfl rfl rfl (ov_move rfl rfl) <| rl_v rfl rfl rfl (ov_move rfl rfl) <| rl_v rfl rfl rfl (ov_move rfl rfl) <| rl_v rfl rfl rfl (ov_index1 rfl Tryz.underlying22 (by kernel_rfl) rfl rfl ⟨by omega, by omega⟩ (by exact hga (by omega))) ?_
  refine rl_v rfl rfl rfl (ov_load rfl Tryz.underlying23 rfl rfl (by exact hgr _ hO1.below i (by omega) (by omega))) ?_
  refine rl_v rfl rfl rfl (ov_move rfl rfl) ?_
  refine rl_call callable_30 rfl rfl rfl rfl rfl rfl (list_any (A i) (GL i) (C i) N (GE i) _ (by omega) (hO1.iatF (hrow i (by omega) (by omega)))) (fun e3 w4 hp5 => ?_)
  obtain ⟨vr, kr, Er, cr, rfl, hk12, hIr, hrr, hOr⟩ := hp5
  refine ⟨_, rfl, ?_⟩
  have hO6 := hO1.join hOr
  obtain ⟨ra, rc, rfl⟩ := Row.val hrr
  refine rl_ow rfl (ow_one rfl rfl rfl Tryz.underlying22 info_23 rfl hO6 rfl rfl) ?_
  rintro _ w7 ⟨b40, rfl, hO8, hs9⟩
  refine rl_ow rfl (ow_app1 rfl rfl rfl Tryz.underlying22 info_23 rfl hO8 1 hv rfl rfl rfl rfl ⟨by omega, by omega⟩) ?_
  rintro _ w10 ⟨v41, c41, rfl, hO11, hv41, hs12⟩
  have h3' : ∀ r : Nat, r < i → IRow (rv r) 3 (upd L i kr r) (fun c => iv (upd E i Er r c)) (ch r) := fun r hr => by
   rw [show upd E i Er (r : Int) = E r from upd_ne _ _ (by omega), upd_ne _ _ (show (r : Int) ≠ i by omega)]
   exact h3 r hr
  obtain ⟨H2, hT2, hO2⟩ := OTab.snoc (L := upd L i kr) (F := fun r c => iv (upd E i Er r c)) (H0 := []) h3' hrr hv41 hO11 (upd_same ..) (fun c _ _ => by rw [upd_same])
  have hL2 : ∀ r : Int, 0 ≤ r → r < ((i + 1 : Nat) : Int) → IsL (upd L i kr r) (upd E i Er r) N ∧ upd L i kr r ≤ 12 := fun r r0 r1 => by
   by_cases z : r = i
   ·rw [z, upd_same, upd_same]; exact ⟨hIr, hk12⟩
   ·rw [upd_ne _ _ z, upd_ne _ _ z]; exact hL r r0 (by omega)
  refine rl_v rfl rfl rfl (ov_assign rfl rfl) <| rl_nil <| run_inBlock <| run_region <| rl_v rfl rfl rfl (ov_move rfl rfl) <| rl_v rfl rfl rfl (ov_add rfl rfl rfl (by omega)) ?_
  refine rl_v rfl rfl rfl (ov_assign rfl rfl) <| rl_nil ?_
  refine Run.use (ih2 (i + 1) (v41) _ ?_ ?_) (And.intro (by exact slot_int rfl (by first | omega)) (And.intro rfl (And.intro rfl (And.intro rfl (And.intro rfl trivial)))))
  ·first | omega | (dsimp only; omega)
  ·exact ⟨by omega, upd L i kr, upd E i Er, H2, hT2, hL2, hO2⟩
 ·have hiN : N = i := by omega
  subst hiN
  have hTg : OTab v 23 3 N L (fun r c => iv (E r c)) (co :: (List.range N).map ch) := ⟨co, rv, ch, rfl, hv, h3⟩
  obtain ⟨g1, gc1, rfl⟩ := hTg.val
  refine run_exit rfl <| run_seq <| run_seq <| run_region <| rl_v rfl rfl rfl (ov_move rfl rfl) <| rl_v rfl rfl rfl (ov_eql rfl rfl rfl) <| rl_nil ?_
  first | refine run_cond_dec rfl (fun c2 => ?_) (fun c2 => ?_) | refine run_cond rfl (fun c2 => ?_) (fun c2 => ?_)
  ·refine run_seq <| run_region ?_
   refine rl_call callable_31 rfl rfl rfl rfl rfl rfl (seven_any _) (fun e13 w14 hp15 => ?_)
   obtain ⟨rfl, hbl⟩ := hp15
   refine ⟨_, rfl, ?_⟩
   have hO16 := hO1.past hbl
   refine rl_v rfl rfl rfl (ov_assign rfl rfl) <| rl_nil <| run_ret Tryz.func6 (res1 Tryz.results6 rfl) ?_
   exact ⟨rfl, hO16.below⟩
  ·refine run_skip <| run_seq <| run_region <| rl_v rfl rfl rfl (ov_move rfl rfl) ?_
   refine rl_call callable_32 rfl rfl rfl rfl rfl rfl (smallR_any z _) (fun e17 w18 hp19 => ?_)
   obtain ⟨rfl, hOs⟩ := hp19
   refine ⟨_, rfl, ?_⟩
   have hO20 := hO1.join hOs
   refine rl_v rfl rfl rfl (ov_add rfl rfl rfl (by omega)) ?_
   refine rl_v rfl rfl rfl (ov_assign rfl rfl) <| rl_nil <| run_seq ?_
   rw [← ha]
   refine run_region <| rl_v rfl rfl rfl (ov_move rfl rfl) <| rl_v rfl rfl rfl (ov_buildL rfl lay_63 rfl (us := [_]) rfl) ?_
   refine rl_call callable_33 rfl rfl rfl rfl rfl rfl (ringsP_any g1 N gc1 L E _ (by omega) (fun i i0 i1 => (hL i i0 i1).1) (hTg.rtab (hO20.sub (show List.Sublist (co :: (List.range N).map ch) _ from List.sublist_append_left _ [])))) (fun e21 w22 hp23 => ?_)
   obtain ⟨oa, nr, oc, Lr, R, o, t, H, rfl, hOr, hRO, hCert, hR, _⟩ := hp23
   refine ⟨_, rfl, ?_⟩
   have hO24 := hO20.join hOr
   have hRt := (hRO.at hOr).tab
   have hOA := hO24
   obtain ⟨Ar, Cr, RBx, RPx, gbr, gor, hgar, hrowr, hrar, helr, _⟩ := hRt.open
   have hor : ∀ i : Int, 0 ≤ i → i < N → 0 ≤ o i ∧ o i < N := hCert.rng
   have hoi : ∀ i j : Int, 0 ≤ i → i < N → 0 ≤ j → j < N → o i = o j → i = j := hCert.inj
   have hnr : ∀ r k : Int, 0 ≤ r → r < nr → 0 ≤ k → k < Lr r → 0 ≤ R r k ∧ R r k < N := fun r k r0 r1 k0 k1 => (hR.rng r k r0 r1 k0 k1).1
   have hnrN : nr ≤ N := pigeonG (n := nr) (m := N) (e := fun r => R r 0) (fun r r0 r1 => hnr r 0 r0 r1 (Int.le_refl _) (by have := hR.pos r r0 r1; omega)) (fun p q p0 p1 q0 q1 e => (hR.dis p 0 q 0 p0 p1 (Int.le_refl _) (by have := hR.pos p p0 p1; omega) q0 q1 (Int.le_refl _) (by have := hR.pos q q0 q1; omega) e).1)
   have hI0 := Own.init w22
   refine rl_v rfl rfl rfl (ov_move rfl rfl) <| rl_v rfl rfl rfl (ov_extract rfl rfl (by rfl)) ?_
   refine rl_v rfl rfl rfl (ov_extract rfl rfl (by rfl)) ?_
   refine rl_v rfl rfl rfl (ov_assign rfl rfl) <| rl_v rfl rfl rfl (ov_assign rfl rfl) <| rl_nil <| run_seq <| run_seq <| run_region <| rl_v rfl rfl rfl (ov_move rfl rfl) <| rl_v rfl rfl rfl (ov_neq rfl rfl rfl) <| rl_nil ?_
   first | refine run_cond_dec rfl (fun c3 => ?_) (fun c3 => ?_) | refine run_cond rfl (fun c3 => ?_) (fun c3 => ?_)
   ·exfalso; exact c3 rfl
   ·refine run_skip <| run_seq <| run_region <| rl_v rfl rfl rfl (ov_move rfl rfl) ?_
    refine rl_make (N) rfl rfl rfl rfl Tryz.underlying64 info_65 rfl hI0 rfl rfl (by rfl) (by rfl) ⟨by omega, by omega⟩ (fun db w25 hO26 hs27 => ?_)
    have hOn := own_none1 N hO26
    refine rl_v rfl rfl rfl (ov_assign rfl rfl) <| rl_nil <| run_seq <| run_seq <| run_region <| rl_v rfl rfl rfl (ov_assign rfl rfl) <| rl_nil <| run_block <| Run.keep [6, 8, 9, 11, 12] (F' := [(6, _), (8, _), (9, _), (11, _), (12, _)]) rfl <| run_loop1 (fun (i : Nat) => [(12, .int .i64 (i : Int))]) [6, 8, 9, 11] (fun (i : Nat) (w28 : World) => i ≤ N ∧ ∃ H1 : List (Option Blk), OTab (.slice (some ⟨db, 0, none⟩) N N) 65 2 N (fun r => if r < i then N else 0) (fun _ _ => .int .i64 0) H1 ∧ Own w22.heap.size w22 w28 (H1 ++ [])) (fun (i : Nat) => N - i) (0) ?_ (And.intro (by exact slot_int rfl (by first | omega)) (And.intro rfl (And.intro rfl (And.intro rfl (And.intro rfl trivial))))) ?_
    ·exact ⟨Nat.zero_le _, _, (OTab.nils db 65 2 N _ _ (by unfold maxLen; omega) (fun _ _ _ => rfl)).congr2 (fun r r0 r1 => by rw [if_neg (by omega)]) (fun _ _ _ _ _ _ => rfl), hOn⟩
    intro i w28 hIw28 ih29
    obtain ⟨hi, H1, hT, hO2⟩ := hIw28
    show Run _ _ _ _ [(12, _), (6, _), (8, _), (9, _), (11, _)] _ _
    refine run_seq <| run_seq <| run_region <| rl_v rfl rfl rfl (ov_move rfl rfl) <| rl_v rfl rfl rfl (ov_move rfl rfl) <| rl_v rfl rfl rfl (ov_lss rfl rfl rfl) <| rl_nil ?_
    first | refine run_cond_dec rfl (fun c4 => ?_) (fun c4 => ?_) | refine run_cond rfl (fun c4 => ?_) (fun c4 => ?_)
    ·obtain ⟨cd, rv2, ch2, hv2, h32, hOt⟩ := hT.get9 hO2 i (by omega)
     refine run_skip <| run_seq <| run_block <| run_region <| rl_v rfl rfl rfl (ov_move rfl rfl) <| rl_v rfl rfl rfl (ov_move rfl rfl) <| rl_v rfl rfl rfl (ov_move rfl rfl) ?_
     refine rl_make (N) rfl rfl rfl rfl Tryz.underlying65 info_2 rfl hOt rfl rfl (by rfl) (by rfl) ⟨by omega, by omega⟩ (fun rb w30 hO31 hs32 => ?_)
     refine rl_v rfl rfl rfl (ov_index1 rfl Tryz.underlying64 (by kernel_rfl) rfl rfl ⟨by omega, by omega⟩ rfl) ?_
     refine rl_ow rfl (ow_storeI1 rfl rfl (by kernel_rfl) hO31 2 hv2 rfl (fun _ => rfl) rfl ⟨by omega, by omega⟩ rfl rfl) ?_
     rintro _ w33 ⟨c9, rfl, hO34, hv9, hs35⟩
     obtain ⟨H2, hT2, hO3⟩ := OTab.put9 (L := fun r => if r < i then N else 0) (F := fun _ _ => .int .i64 0) (x := .slice (some ⟨rb, 0, none⟩) N N) (m := N) (G := fun _ => .int .i64 0) i (by omega) hv9 h32 (IRow.ofV (Nat.le_refl _) (by unfold maxLen; omega) (fun _ _ _ => rfl)) (hO34.sub (.cons_cons _ (.cons _ (.refl _))))
     have hT3 := hT2.congr2 (L' := fun r => if r < ((i + 1 : Nat) : Int) then N else 0) (G := fun _ _ => .int .i64 0) (fun r r0 r1 => by
      by_cases y : r = i
      ·rw [y, upd_same, if_pos (by omega)]
      ·rw [upd_ne _ _ y]
       by_cases x : r < i
       ·rw [if_pos x, if_pos (by omega)]
       ·rw [if_neg x, if_neg (by omega)]) (fun r c r0 r1 c0 c1 => by unfold upd; split <;> rfl)
     refine rl_nil <| run_inBlock <| run_region <| rl_v rfl rfl rfl (ov_move rfl rfl) <| rl_v rfl rfl rfl (ov_add rfl rfl rfl (by omega)) ?_
     refine rl_v rfl rfl rfl (ov_assign rfl rfl) <| rl_nil ?_
     refine Run.use (ih29 (i + 1) _ ?_ ?_) (And.intro (by exact slot_int rfl (by first | omega)) (And.intro rfl (And.intro rfl (And.intro rfl (And.intro rfl trivial)))))
     ·first | omega | (dsimp only; omega)
     ·exact ⟨by omega, H2, hT3, hO3⟩
    ·have hiN : i = N := by omega
     have hT0 : OTab (.slice (some ⟨db, 0, none⟩) N N) 65 2 N (fun _ => N) (fun x c => .int .i64 (rD N o a (fun _ => false) x c)) H1 := hT.congr2 (fun r r0 r1 => if_pos (by omega)) (fun r c _ _ _ _ => by
      unfold rD; rw [if_neg fun q => Bool.noConfusion q.2.1])
     have hs0 : (0 : Int) = sm (rS o a (fun _ => false)) N := by
      rw [sm_congr (g := fun _ => 0) fun x _ _ => by unfold rS; rw [if_neg Bool.noConfusion], sm_const 0 (by omega)]
      omega
     refine run_exit rfl <| run_seq <| run_region <| rl_v rfl rfl rfl (ov_assign rfl rfl) <| rl_nil <| run_seq <| run_seq <| run_region <| rl_v rfl rfl rfl (ov_assign rfl rfl) <| rl_nil <| run_block <| Run.keep [6, 8, 9, 11, 13, 14] (F' := [(6, _), (8, _), (9, _), (11, _), (13, _), (14, _)]) rfl <| run_loop2 (fun (r : Nat) (s : Int) => [(14, .int .i64 (r : Int)), (13, .int .i64 s)]) [6, 8, 9, 11] (fun (r : Nat) (s : Int) (w36 : World) => r ≤ nr ∧ ∃ (dn : Int → Bool) (H2 : List (Option Blk)), Dn nr Lr R r 0 dn ∧ s = sm (rS o a dn) N ∧ OTab (.slice (some ⟨db, 0, none⟩) N N) 65 2 N (fun _ => N) (fun x c => .int .i64 (rD N o a dn x c)) H2 ∧ Own w22.heap.size w22 w36 (H2 ++ [])) (fun (r : Nat) (s : Int) => nr - r) (0) (0) ?_ (And.intro (by exact slot_int rfl (by first | omega)) (And.intro (by exact slot_int rfl (by first | omega)) (And.intro rfl (And.intro rfl (And.intro rfl (And.intro rfl trivial)))))) ?_
     ·exact ⟨Nat.zero_le _, fun _ => false, H1, Dn.init, hs0, hT0, hO2⟩
     intro r s w36 hIw36 ih37
     obtain ⟨hr, dn, H2, hdn, hs, hT1, hO3⟩ := hIw36
     show Run _ _ _ _ [(14, _), (13, _), (6, _), (8, _), (9, _), (11, _)] _ _
     refine run_seq <| run_seq <| run_region <| rl_v rfl rfl rfl (ov_move rfl rfl) <| rl_v rfl rfl rfl (ov_move rfl rfl) <| rl_v rfl rfl rfl (ov_len rfl Tryz.underlying22 rfl) <| rl_v rfl rfl rfl (ov_lss rfl rfl rfl) <| rl_nil ?_
     first | refine run_cond_dec rfl (fun c5 => ?_) (fun c5 => ?_) | refine run_cond rfl (fun c5 => ?_) (fun c5 => ?_)
     ·refine run_skip <| run_seq <| run_block <| run_seq <| run_region <| rl_v rfl rfl rfl (ov_move rfl rfl) <| rl_v rfl rfl rfl (ov_move rfl rfl) <| rl_v rfl rfl rfl (ov_index1 rfl Tryz.underlying22 (by kernel_rfl) rfl rfl ⟨by omega, by omega⟩ (by exact hgar (by omega))) ?_
      refine rl_v rfl rfl rfl (ov_load rfl Tryz.underlying23 rfl rfl (by exact hrowr _ hO3.below r (by omega) c5)) ?_
      refine rl_v rfl rfl rfl (ov_assign rfl rfl) <| rl_nil <| run_seq <| run_region <| rl_v rfl rfl rfl (ov_assign rfl rfl) <| rl_nil <| run_block <| Run.keep [6, 8, 9, 11, 13, 14, 15, 16] (F' := [(6, _), (8, _), (9, _), (11, _), (13, _), (14, _), (15, _), (16, _)]) rfl <| run_loop2 (fun (k : Nat) (s2 : Int) => [(16, .int .i64 (k : Int)), (13, .int .i64 s2)]) [6, 8, 9, 11, 14, 15] (fun (k : Nat) (s2 : Int) (w38 : World) => k ≤ Lr r ∧ ∃ (dn2 : Int → Bool) (H3 : List (Option Blk)), Dn nr Lr R r k dn2 ∧ s2 = sm (rS o a dn2) N ∧ OTab (.slice (some ⟨db, 0, none⟩) N N) 65 2 N (fun _ => N) (fun x c => .int .i64 (rD N o a dn2 x c)) H3 ∧ Own w22.heap.size w22 w38 (H3 ++ [])) (fun (k : Nat) (s2 : Int) => Lr r - k) (0) (s) ?_ (And.intro (by exact slot_int rfl (by first | omega)) (And.intro (by exact slot_int rfl (by first | omega)) (And.intro rfl (And.intro rfl (And.intro rfl (And.intro rfl (And.intro rfl (And.intro rfl trivial)))))))) ?_
      ·exact ⟨Nat.zero_le _, dn, H2, hdn, hs, hT1, hO3⟩
      intro k s2 w38 hIw38 ih39
      obtain ⟨hk, dn2, H3, hdn2, hs2, hT2, hO4⟩ := hIw38
      show Run _ _ _ _ [(16, _), (13, _), (6, _), (8, _), (9, _), (11, _), (14, _), (15, _)] _ _
      refine run_seq <| run_seq <| run_region_join 86 (.bool (decide ((k : Int) < Lr r ∧ (1 : Int) < Lr r))) [6, 8, 9, 11, 13, 14, 15, 16] (fun hk40 => ?_) ?_
      ·refine rl_v rfl rfl rfl (ov_move rfl rfl) <| rl_v rfl rfl rfl (ov_move rfl rfl) <| rl_v rfl rfl rfl (ov_len rfl Tryz.underlying23 rfl) <| rl_v rfl rfl rfl (ov_lss rfl rfl rfl) <| rl_v rfl rfl rfl (ov_move rfl rfl) ?_
       first | refine rl_split_dec 82 rfl (fun hg41 => ?_) (fun hg41 => ?_) | refine rl_split 82 rfl (fun hg41 => ?_) (fun hg41 => ?_)
       ·refine rl_gv rfl rfl rfl rfl rfl (ov_move rfl rfl) <| rl_gv rfl rfl rfl rfl rfl (ov_len rfl Tryz.underlying23 rfl) <| rl_gv rfl rfl rfl rfl rfl (ov_gtr rfl rfl rfl) <| rl_v rfl rfl rfl (ov_pick_t rfl rfl rfl) ?_
        refine rl_nil (hk40 _ (jbd rfl (by omega)) (And.intro rfl (And.intro rfl (And.intro rfl (And.intro rfl (And.intro rfl (And.intro rfl (And.intro rfl (And.intro rfl trivial)))))))))
       ·refine rl_gskip rfl rfl rfl rfl rfl rfl <| rl_gskip rfl rfl rfl rfl rfl rfl <| rl_gskip rfl rfl rfl rfl rfl rfl <| rl_v rfl rfl rfl (ov_pick_f rfl rfl rfl) ?_
        refine rl_nil (hk40 _ (jbf rfl (by omega)) (And.intro rfl (And.intro rfl (And.intro rfl (And.intro rfl (And.intro rfl (And.intro rfl (And.intro rfl (And.intro rfl trivial)))))))))
      ·show Run _ _ _ _ [(86, _), (6, _), (8, _), (9, _), (11, _), (13, _), (14, _), (15, _), (16, _)] _ _
       first | refine run_cond_dec rfl (fun c6 => ?_) (fun c6 => ?_) | refine run_cond rfl (fun c6 => ?_) (fun c6 => ?_)
       ·obtain ⟨c7, c8⟩ := c6
        have hxr := hnr r k (by omega) c5 (by omega) c7
        have hox := hor _ hxr.1 hxr.2
        have hcy := hR.cyc r k (by omega) c5 (by omega) c7
        have hmod := nxt_mod (m := (Lr r : Int)) (k := (k : Int)) (by omega) c7
        have hm0 : 0 ≤ ((k : Int) + 1) % (Lr r : Int) := Int.emod_nonneg _ (by omega)
        have hm1 : ((k : Int) + 1) % (Lr r : Int) < (Lr r : Int) := Int.emod_lt_of_pos _ (by omega)
        have hLr : Lr r ≤ 9223372036854775806 := by
         have := pigeonG (n := Lr r) (m := N) (e := fun q => R r q) (fun q q0 q1 => hnr r q (by omega) c5 q0 q1) (fun p q p0 p1 q0 q1 e => (hR.dis r p r q (by omega) c5 p0 p1 (by omega) c5 q0 q1 e).2)
         omega
        obtain ⟨x, hxe⟩ : ∃ x : Nat, (x : Int) = R r k := ⟨(R r k).toNat, by omega⟩
        obtain ⟨cd, rv2, ch2, hv2, h32, hOt⟩ := hT2.get9 hO4 x (by omega)
        have h3x := h32 x (by omega)
        obtain ⟨ya, yc, erv⟩ := Row.val h3x
        rw [erv] at h3x
        obtain ⟨yb, hyb⟩ := IRow.addr h3x
        have h96 : some (iv (R r (((k : Int) + 1) % (Lr r : Int)))) = some (iv (o (R r k))) := by rw [hmod, hcy]
        have h125 : some (rv2 (R r k)) = some (.slice ya N yc) := by rw [← hxe, erv]
        refine run_skip <| run_seq <| run_block <| run_seq <| run_region <| rl_v rfl rfl rfl (ov_move rfl rfl) <| rl_v rfl rfl rfl (ov_move rfl rfl) <| rl_v rfl rfl rfl (ov_add rfl rfl rfl (by omega)) ?_
        refine rl_v rfl rfl rfl (ov_move rfl rfl) <| rl_v rfl rfl rfl (ov_len rfl Tryz.underlying23 rfl) <| rl_v rfl rfl rfl (ov_rem rfl rfl rfl (by omega) (by omega)) ?_
        refine rl_v rfl rfl rfl (ov_index1 rfl Tryz.underlying23 (by kernel_rfl) rfl rfl ⟨by omega, by omega⟩ (by exact hrar r (by omega) c5 (by omega))) ?_
        refine rl_v rfl rfl rfl (ov_load rfl Tryz.underlying3 rfl rfl (by exact (helr _ hOt.below r (by omega) c5 (((k : Int) + 1) % (Lr r : Int)) hm0 hm1).trans h96)) ?_
        refine rl_v rfl rfl rfl (ov_assign rfl rfl) <| rl_nil <| run_seq <| run_seq <| run_region <| rl_v rfl rfl rfl (ov_move rfl rfl) <| rl_v rfl rfl rfl (ov_move rfl rfl) <| rl_v rfl rfl rfl (ov_index1 rfl Tryz.underlying23 (by kernel_rfl) rfl rfl ⟨by omega, by omega⟩ (by exact hrar r (by omega) c5 (by omega))) ?_
        refine rl_v rfl rfl rfl (ov_load rfl Tryz.underlying3 rfl rfl (by exact helr _ hOt.below r (by omega) c5 k (by omega) c7)) ?_
        refine rl_v rfl rfl rfl (ov_lss rfl rfl rfl) <| rl_v rfl rfl rfl (ov_move rfl rfl) ?_
        first | refine rl_noD 102 rfl ((by omega)) ?_ | refine rl_no 102 rfl ((by omega)) ?_
        refine rl_gv rfl rfl rfl rfl rfl (ov_move rfl rfl) <| rl_gv rfl rfl rfl rfl rfl (ov_move rfl rfl) <| rl_gv rfl rfl rfl rfl rfl (ov_index1 rfl Tryz.underlying23 (by kernel_rfl) rfl rfl ⟨by omega, by omega⟩ (by exact hrar r (by omega) c5 (by omega))) ?_
        refine rl_gv rfl rfl rfl rfl rfl (ov_load rfl Tryz.underlying3 rfl rfl (by exact helr _ hOt.below r (by omega) c5 k (by omega) c7)) ?_
        refine rl_gv rfl rfl rfl rfl rfl (ov_move rfl rfl) <| rl_gv rfl rfl rfl rfl rfl (ov_geq rfl rfl rfl) <| rl_v rfl rfl rfl (ov_pick_f rfl rfl rfl) <| rl_v rfl rfl rfl (ov_move rfl rfl) ?_
        first | refine rl_noD 110 rfl ((by omega)) ?_ | refine rl_no 110 rfl ((by omega)) ?_
        refine rl_gv rfl rfl rfl rfl rfl (ov_move rfl rfl) <| rl_gv rfl rfl rfl rfl rfl (ov_lss rfl rfl rfl) <| rl_v rfl rfl rfl (ov_pick_f rfl rfl rfl) <| rl_v rfl rfl rfl (ov_move rfl rfl) ?_
        first | refine rl_noD 114 rfl ((by omega)) ?_ | refine rl_no 114 rfl ((by omega)) ?_
        refine rl_gv rfl rfl rfl rfl rfl (ov_move rfl rfl) <| rl_gv rfl rfl rfl rfl rfl (ov_move rfl rfl) <| rl_gv rfl rfl rfl rfl rfl (ov_geq rfl rfl rfl) <| rl_v rfl rfl rfl (ov_pick_f rfl rfl rfl) <| rl_nil ?_
        first | refine run_cond_dec rfl (fun c9 => ?_) (fun c9 => ?_) | refine run_cond rfl (fun c9 => ?_) (fun c9 => ?_)
        ·exfalso; omega
        ·refine run_skip <| run_seq <| run_region <| rl_v rfl rfl rfl (ov_move rfl rfl) <| rl_v rfl rfl rfl (ov_move rfl rfl) <| rl_v rfl rfl rfl (ov_move rfl rfl) <| rl_v rfl rfl rfl (ov_index1 rfl Tryz.underlying23 (by kernel_rfl) rfl rfl ⟨by omega, by omega⟩ (by exact hrar r (by omega) c5 (by omega))) ?_
         refine rl_v rfl rfl rfl (ov_load rfl Tryz.underlying3 rfl rfl (by exact helr _ hOt.below r (by omega) c5 k (by omega) c7)) ?_
         refine rl_v rfl rfl rfl (ov_index1 rfl Tryz.underlying64 (by kernel_rfl) rfl rfl ⟨by omega, by omega⟩ (by rfl)) ?_
         refine rl_v rfl rfl rfl (ov_load rfl Tryz.underlying65 rfl rfl (by exact (hv2.cellU hOt 1 rfl rfl (i := R r k) (by omega) (by omega)).trans h125)) ?_
         refine rl_v rfl rfl rfl (ov_move rfl rfl) <| rl_v rfl rfl rfl (ov_move rfl rfl) <| rl_v rfl rfl rfl (ov_index1 rfl Tryz.underlying65 (by kernel_rfl) rfl rfl ⟨by omega, by omega⟩ (by exact hyb (by omega))) ?_
         refine rl_ow rfl (ow_storeI1 rfl rfl (by kernel_rfl) hOt 0 h3x rfl hyb rfl ⟨by omega, by omega⟩ rfl rfl) ?_
         rintro _ w42 ⟨c10, rfl, hO43, hx10, hs44⟩
         obtain ⟨H4, hT4, hO5⟩ := OTab.set9 (L := fun _ => N) (F := fun x c => .int .i64 (rD N o a dn2 x c)) x (by omega) hv2 h32 erv hx10 hO43
         have hfr := hdn2.fresh hR (by omega) c5 (by omega) c7
         have hT5 := hT4.congr (G := fun x c => .int .i64 (rD N o a (upd dn2 (R r k) true) x c)) (fun y c y0 y1 c0 c1 => by
          rw [rD_step hxr.1 hxr.2 hfr y c]
          by_cases d : y = R r k
          ·rw [if_pos d, d, hxe, upd_same]
           unfold upd; split <;> rfl
          ·rw [if_neg d, upd_ne _ _ (by omega)])
         have hsb : 0 ≤ s2 ∧ s2 ≤ N * 1001 := by
          rw [hs2]
          exact ⟨sm_nonneg fun y _ _ => by unfold rS; split <;> omega, sm_bound _ (by omega) fun y _ _ => by unfold rS; split <;> omega⟩
         have hs3 : s2 + a = sm (rS o a (upd dn2 (R r k) true)) N := by rw [rS_step hxr.1 hxr.2 hfr, hs2]
         have hdn3 : Dn nr Lr R r ((k + 1 : Nat) : Int) (upd dn2 (R r k) true) := by
          rw [show ((k + 1 : Nat) : Int) = (k : Int) + 1 by omega]
          exact hdn2.step (by omega) c5 (by omega) c7 (by omega)
         refine rl_nil <| run_region <| rl_v rfl rfl rfl (ov_move rfl rfl) <| rl_v rfl rfl rfl (ov_move rfl rfl) <| rl_v rfl rfl rfl (ov_add rfl rfl rfl (by omega)) ?_
         refine rl_v rfl rfl rfl (ov_assign rfl rfl) <| rl_nil <| run_inBlock <| run_region <| rl_v rfl rfl rfl (ov_move rfl rfl) <| rl_v rfl rfl rfl (ov_add rfl rfl rfl (by omega)) ?_
         refine rl_v rfl rfl rfl (ov_assign rfl rfl) <| rl_nil ?_
         refine Run.use (ih39 (k + 1) (s2 + a) _ ?_ ?_) (And.intro (by exact slot_int rfl (by first | omega)) (And.intro (by exact slot_int rfl (by first | omega)) (And.intro rfl (And.intro rfl (And.intro rfl (And.intro rfl (And.intro rfl (And.intro rfl trivial))))))))
         ·first | omega | (dsimp only; omega)
         ·exact ⟨by omega, _, H4, hdn3, hs3, hT5, hO5⟩
       ·have hdn3 : Dn nr Lr R ((r + 1 : Nat) : Int) 0 dn2 := by
         rw [show ((r + 1 : Nat) : Int) = (r : Int) + 1 by omega]
         exact hdn2.next (by omega) (by omega)
        refine run_exit rfl <| run_inBlock <| run_region <| rl_v rfl rfl rfl (ov_move rfl rfl) <| rl_v rfl rfl rfl (ov_add rfl rfl rfl (by omega)) ?_
        refine rl_v rfl rfl rfl (ov_assign rfl rfl) <| rl_nil ?_
        refine Run.use (ih37 (r + 1) (s2) _ ?_ ?_) (And.intro (by exact slot_int rfl (by first | omega)) (And.intro (by exact slot_int rfl (by first | omega)) (And.intro rfl (And.intro rfl (And.intro rfl (And.intro rfl trivial))))))
        ·first | omega | (dsimp only; omega)
        ·exact ⟨by omega, dn2, H3, hdn3, hs2, hT2, hO4⟩
     ·have hrn : r = nr := by omega
      rw [hrn] at hdn
      have hall : ∀ x : Int, 0 ≤ x → x < N → dn x = rN o x := fun x x0 x1 => hdn.all hR x0 x1
      have hTf := hT1.congr (G := fun x c => .int .i64 (rD N o a (rN o) x c)) (fun x c x0 x1 _ _ => by unfold rD; rw [hall x x0 x1])
      have hsf : sm (rS o a (rN o)) N = s := by rw [hs]; exact sm_congr fun x x0 x1 => by unfold rS; rw [hall x x0 x1]
      have hV := rD_valid (n := N) (o := o) (a := a) (by omega) (by omega) (by omega) (by omega)
      have hIT := hTf.reads hO3
      have hOB := hOA.join hO3
      have hI0 := Own.init w36
      refine run_exit rfl <| run_seq <| run_region <| rl_v rfl rfl rfl (ov_move rfl rfl) ?_
      refine rl_call callable_34 rfl rfl rfl rfl rfl rfl (cancel_any (some ⟨db, 0, none⟩) N N (rD N o a (rN o)) _ hV (hIT.later hI0.below)) (fun e45 w46 hp47 => ?_)
      obtain ⟨v4, x4, H4, rk, rfl, hT4, hOq, hCi, _, hB⟩ := hp47
      refine ⟨_, rfl, ?_⟩
      have hO48 := hI0.join hOq
      rw [rD_cancel hor hoi (by omega) hCi hB]
      refine rl_v rfl rfl rfl (ov_move rfl rfl) <| rl_v rfl rfl rfl (ov_extract rfl rfl (by rfl)) ?_
      refine rl_v rfl rfl rfl (ov_extract rfl rfl (by rfl)) ?_
      refine rl_v rfl rfl rfl (ov_extract rfl rfl (by rfl)) ?_
      refine rl_v rfl rfl rfl (ov_assign rfl rfl) <| rl_v rfl rfl rfl (ov_assign rfl rfl) <| rl_v rfl rfl rfl (ov_assign rfl rfl) <| rl_nil <| run_seq <| run_region <| rl_v rfl rfl rfl (ov_move rfl rfl) ?_
      refine rl_call callable_35 rfl rfl rfl rfl rfl rfl (settle_any (some ⟨db, 0, none⟩) N N (rD N o a (rN o)) _ hV (hIT.later hO48.below)) (fun e49 w50 hp51 => ?_)
      obtain ⟨K, v5, c5, rfl, hSt, _, hr5, hOq⟩ := hp51
      refine ⟨_, rfl, ?_⟩
      have hO52 := hO48.join hOq
      obtain rfl := rD_settle hor hoi hSt
      obtain ⟨a5, p5, rfl⟩ := Row.val hr5
      refine rl_v rfl rfl rfl (ov_move rfl rfl) <| rl_v rfl rfl rfl (ov_extract rfl rfl (by rfl)) ?_
      refine rl_v rfl rfl rfl (ov_extract rfl rfl (by rfl)) ?_
      refine rl_v rfl rfl rfl (ov_assign rfl rfl) <| rl_v rfl rfl rfl (ov_assign rfl rfl) <| rl_nil <| run_seq <| run_region <| rl_v rfl rfl rfl (ov_move rfl rfl) <| rl_v rfl rfl rfl (ov_move rfl rfl) ?_
      refine rl_make (N) rfl rfl rfl rfl Tryz.underlying65 info_2 rfl hO52 rfl rfl (by rfl) (by rfl) ⟨by omega, by omega⟩ (fun zb w53 hO54 hs55 => ?_)
      refine rl_v rfl rfl rfl (ov_buildL rfl lay_73 rfl (us := [_, _]) rfl) ?_
      refine rl_call callable_36 rfl rfl rfl rfl rfl rfl (failing_any2 (some ⟨db, 0, none⟩) (some ⟨zb, 0, none⟩) N N N (rD N o a (rN o)) (fun _ => 0) _ hV (fun _ _ _ => by decide) (hIT.later hO54.below) (hO54.readsT 0 rfl N (Nat.le_refl _))) (fun e56 w57 hp58 => ?_)
      obtain ⟨p, v6, c6, rfl, hCl, hr6, hOq⟩ := hp58
      refine ⟨_, rfl, ?_⟩
      have hO59 := hO54.join hOq
      rw [rD_fail hor hoi (by omega) hCl] at hr6
      obtain ⟨a6, p6, rfl⟩ := Row.val hr6
      refine rl_v rfl rfl rfl (ov_move rfl rfl) <| rl_v rfl rfl rfl (ov_extract rfl rfl (by rfl)) ?_
      refine rl_v rfl rfl rfl (ov_extract rfl rfl (by rfl)) ?_
      refine rl_v rfl rfl rfl (ov_assign rfl rfl) <| rl_v rfl rfl rfl (ov_assign rfl rfl) <| rl_nil <| run_seq <| run_region <| rl_v rfl rfl rfl (ov_move rfl rfl) <| rl_v rfl rfl rfl (ov_eql rfl rfl rfl) <| rl_v rfl rfl rfl (ov_move rfl rfl) ?_
      first | refine rl_yesD 153 rfl (rfl) ?_ | refine rl_yes 153 rfl (rfl) ?_
      refine rl_gv rfl rfl rfl rfl rfl (ov_move rfl rfl) <| rl_gv rfl rfl rfl rfl rfl (ov_eql rfl rfl rfl) <| rl_v rfl rfl rfl (ov_pick_t rfl rfl rfl) <| rl_v rfl rfl rfl (ov_move rfl rfl) ?_
      first | refine rl_yesD 157 rfl (rfl) ?_ | refine rl_yes 157 rfl (rfl) ?_
      refine rl_gv rfl rfl rfl rfl rfl (ov_move rfl rfl) <| rl_gv rfl rfl rfl rfl rfl (ov_eql rfl rfl rfl) <| rl_v rfl rfl rfl (ov_pick_t rfl rfl rfl) <| rl_v rfl rfl rfl (ov_move rfl rfl) ?_
      first | refine rl_yesD 161 rfl (rfl) ?_ | refine rl_yes 161 rfl (rfl) ?_
      refine rl_gv rfl rfl rfl rfl rfl (ov_move rfl rfl) <| rl_gv rfl rfl rfl rfl rfl (ov_move rfl rfl) <| rl_gv rfl rfl rfl rfl rfl (ov_eql rfl rfl rfl) <| rl_v rfl rfl rfl (ov_pick_t rfl rfl rfl) <| rl_v rfl rfl rfl (ov_move rfl rfl) ?_
      first | refine rl_yesD 166 rfl (hsf) ?_ | refine rl_yes 166 rfl (hsf) ?_
      refine rl_gv rfl rfl rfl rfl rfl (ov_move rfl rfl) <| rl_gv rfl rfl rfl rfl rfl (ov_len rfl Tryz.underlying68 rfl) <| rl_gv rfl rfl rfl rfl rfl (ov_eql rfl rfl rfl) <| rl_v rfl rfl rfl (ov_pick_t rfl rfl rfl) <| rl_v rfl rfl rfl (ov_move rfl rfl) ?_
      first | refine rl_yesD 171 rfl (rfl) ?_ | refine rl_yes 171 rfl (rfl) ?_
      refine rl_gv rfl rfl rfl rfl rfl (ov_move rfl rfl) <| rl_gv rfl rfl rfl rfl rfl (ov_len rfl Tryz.underlying23 rfl) <| rl_gv rfl rfl rfl rfl rfl (ov_eql rfl rfl rfl) <| rl_v rfl rfl rfl (ov_pick_t rfl rfl rfl) <| rl_v rfl rfl rfl (ov_move rfl rfl) ?_
      first | refine rl_yesD 176 rfl (rfl) ?_ | refine rl_yes 176 rfl (rfl) ?_
      refine rl_gcall callable_31 rfl rfl rfl rfl rfl rfl rfl rfl (seven_any _) (fun e60 w61 hp62 => ?_)
      obtain ⟨rfl, hbl⟩ := hp62
      refine ⟨_, rfl, ?_⟩
      have hO63 := hO59.past hbl
      refine rl_v rfl rfl rfl (ov_pick_t rfl rfl rfl) <| rl_v rfl rfl rfl (ov_assign rfl rfl) <| rl_nil <| run_ret Tryz.func6 (res1 Tryz.results6 rfl) ?_
      exact ⟨rfl, (hOB.join hO63).below⟩
end Go.Proofs.YtlldeifbfpmbaaaGreat
