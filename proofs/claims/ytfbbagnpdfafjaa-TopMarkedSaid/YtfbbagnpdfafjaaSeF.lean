import Derived.Test.YtfbbagnpdfafjaaSeC
set_option maxRecDepth 100000
namespace Go.Proofs.Ytfbbagnpdfafjaa
open Go.RowKit Go.Proofs
theorem ov_buildA0 {P : Program} {N : Nat} {o : Oper} {F : Fr} {w : World} {T E : TypeId} {n s : Nat} {z : Value} (ho : o.op = .build T #[]) (hT : P.underlying T = some (.array n E)) (hz : (P.info? T).map (·.zero) = some (some z)) (hs : (P.info? E).map (·.size) = some s) : OpV P N o F w (.agg z.cells) := by
 intro a ha
 obtain ⟨it, hit, hz0⟩ := Option.map_eq_some_iff.1 hz
 obtain ⟨ie, hie, hse⟩ := Option.map_eq_some_iff.1 hs
 have h1 : (Instr.build T #[]).run P w = .ok (.agg z.cells) w := by
  unfold Instr.build
  simp [zeroValue, typeInfo, hit, hz0, run_underlying hT, sizeOf, hie, Instr.fill, Result.andThen]
 unfold execOp
 rw [ho]
 simp [h1, Result.andThen]
namespace MW
def bothTo (X : MW) (k d : Int) (h1 h2 : Bool) (i : Int) : MW := if i = 1 then X else if i = 2 then (if h1 then X else X.send ⟨0, 1, k, d⟩) else X.both k d h1 h2
theorem send_len (X : MW) (m : Ms) : (X.send m).bag.length = X.bag.length + 1 := by unfold send; simp
theorem both_len (X : MW) (k d : Int) (h1 h2 : Bool) : X.bag.length ≤ (X.both k d h1 h2).bag.length ∧ (X.both k d h1 h2).bag.length ≤ X.bag.length + 2 := by
 unfold both
 dsimp only
 cases h1 <;> cases h2 <;> simp [send_len] <;> omega
theorem bothTo_len (X : MW) (k d : Int) (h1 h2 : Bool) (i : Int) : (X.bothTo k d h1 h2 i).bag.length ≤ X.bag.length + 2 ∧ (i = 1 ∨ i = 2 → (X.bothTo k d h1 h2 i).bag.length ≤ X.bag.length + 1) := by
 unfold bothTo
 have := X.both_len k d h1 h2
 split
 ·exact ⟨by omega, fun _ => by omega⟩
 ·split
  ·cases h1
   ·simp [send_len]
   ·simp
  ·exact ⟨this.2, fun h => by omega⟩
theorem bothTo_hd {X : MW} {k d : Int} {h1 h2 : Bool} {i : Int} (hi : i = 1 ∨ i = 2) (h : (if i = 1 then h1 else h2) = true) : X.bothTo k d h1 h2 (i + 1) = X.bothTo k d h1 h2 i := by
 rcases hi with rfl | rfl
 ·simp at h; simp [bothTo, h]
 ·simp at h; simp [bothTo, both, h]
theorem bothTo_nh {X : MW} {k d : Int} {h1 h2 : Bool} {i : Int} (hi : i = 1 ∨ i = 2) (h : (if i = 1 then h1 else h2) = false) : X.bothTo k d h1 h2 (i + 1) = (X.bothTo k d h1 h2 i).send ⟨0, i, k, d⟩ := by
 rcases hi with rfl | rfl
 ·simp at h; simp [bothTo, h]
 ·simp at h; simp [bothTo, both, h]
end MW
theorem sendBoth_any (A : WA) (X : MW) (k d : Int) (h0 h1 h2 : Bool) (B : Nat) (Pl R : List (Option Blk)) (w0 w : World) (hb : X.bag.length + 2 ≤ 4000000000000) (h : WAt B w0 w A X Pl R) :
  Calls Try.prog 135 #[ptr A.C, iv k, iv d, .agg #[.bool h0, .bool h1, .bool h2]] w fun e w' => e = .returned (.tuple #[]) ∧ WAt B w0 w' A (X.both k d h1 h2) Pl R := by
 obtain ⟨K, N, hO, hK, hPl⟩ := h
 refine calls_of_run (F := [(0, _), (1, _), (2, _), (3, _)]) Try.func135 rfl Try.ntmps135 rfl rfl <| run_seq <| run_region <| rl_ow rfl (ow_box _ rfl rfl rfl rfl rfl hO) ?_
 rintro _ w1 ⟨b7, rfl, hO2, hs3⟩
 refine rl_nil <| run_seq <| run_region <| rl_v rfl rfl rfl (ov_assign rfl rfl) <| rl_nil <| run_block <| Run.keep [0, 1, 2, 7, 8] (F' := [(0, _), (1, _), (2, _), (7, _), (8, _)]) rfl <| run_loop1 (fun (i : Int) => [(8, .int .i64 i)]) [0, 1, 2, 7] (fun (i : Int) (w4 : World) => 1 ≤ i ∧ i ≤ 3 ∧ WAt B w0 w4 A (X.bothTo k d h1 h2 i) Pl (some (lch b7 237 [.bool h0, .bool h1, .bool h2]) :: R)) (fun (i : Int) => (3 - i).toNat) (1) ?_ (And.intro (by exact slot_int rfl (by first | omega)) (And.intro rfl (And.intro rfl (And.intro rfl (And.intro rfl trivial))))) ?_
 ·exact ⟨by omega, by omega, WAt.push hO2 hK hPl⟩
 intro i w4 hIw4 ih5
 obtain ⟨hi0, hi1, hW⟩ := hIw4
 show Run _ _ _ _ [(8, _), (0, _), (1, _), (2, _), (7, _)] _ _
 obtain ⟨K2, N2, hO2, hK2, hPl2⟩ := hW.pull
 refine run_seq <| run_seq <| run_region <| rl_v rfl rfl rfl (ov_move rfl rfl) <| rl_v rfl rfl rfl (ov_leq rfl rfl rfl) <| rl_nil ?_
 first | refine run_cond_dec rfl (fun hi => ?_) (fun hi => ?_) | refine run_cond rfl (fun hi => ?_) (fun hi => ?_)
 ·have hi2 : i = 1 ∨ i = 2 := by omega
  have hln := (X.bothTo_len k d h1 h2 i).2 hi2
  have hcell : w4.cell? ⟨b7, 0 + i.toNat, none⟩ = some (.bool (if i = 1 then h1 else h2)) := by
   rcases hi2 with rfl | rfl
   ·exact hO2.cellL 0 rfl rfl
   ·exact hO2.cellL 0 rfl rfl
  refine run_skip <| run_seq <| run_block <| run_seq <| run_region <| rl_v rfl rfl rfl (ov_move rfl rfl) <| rl_v rfl rfl rfl (ov_indexA1 rfl Try.underlying237 (by kernel_rfl) rfl rfl ⟨by omega, by omega⟩) ?_
  refine rl_v rfl rfl rfl (ov_load rfl Try.underlying4 rfl rfl hcell) ?_
  refine rl_v rfl rfl rfl (ov_not rfl rfl) <| rl_nil ?_
  first | refine run_cond_dec rfl (fun hq => ?_) (fun hq2 => ?_) | refine run_cond rfl (fun hq => ?_) (fun hq2 => ?_)
  ·refine run_region <| rl_v rfl rfl rfl (ov_move rfl rfl) <| rl_v rfl rfl rfl (ov_nil rfl rfl) <| rl_v rfl rfl rfl (ov_fieldS rfl Try.underlying191 rfl (fo := 4) rfl (by kernel_rfl) rfl) ?_
   refine rl_v rfl rfl rfl (ov_load rfl Try.underlying100 rfl rfl (by exact hO2.cellL 2 rfl rfl)) ?_
   refine rl_v rfl rfl rfl (ov_move rfl rfl) <| rl_v rfl rfl rfl (ov_move rfl rfl) <| rl_v rfl rfl rfl (ov_move rfl rfl) <| rl_v rfl rfl rfl (ov_buildL rfl lay_201 rfl (us := [_, _, _, _]) rfl) ?_
   refine rl_call callable_144 rfl rfl rfl rfl rfl rfl (send_any A (X.bothTo k d h1 h2 i) ⟨0, i, k, d⟩ B Pl _ w0 w4 hW (by omega)) (fun e6 w7 hp8 => ?_)
   obtain ⟨rfl, hW3⟩ := hp8
   refine ⟨_, rfl, ?_⟩
   obtain ⟨K3, N3, hO3, hK3, hPl3⟩ := hW3.pull
   refine rl_nil <| run_inBlock <| run_region <| rl_v rfl rfl rfl (ov_move rfl rfl) <| rl_v rfl rfl rfl (ov_add rfl rfl rfl (by omega)) ?_
   refine rl_v rfl rfl rfl (ov_assign rfl rfl) <| rl_nil ?_
   refine Run.use (ih5 (i + 1) _ ?_ ?_) (And.intro (by exact slot_int rfl (by first | omega)) (And.intro rfl (And.intro rfl (And.intro rfl (And.intro rfl trivial)))))
   ·first | omega | (dsimp only; omega)
   ·exact ⟨by omega, by omega, by rw [MW.bothTo_nh hi2 (by simpa using hq)]; exact WAt.push hO3 hK3 hPl3⟩
  ·refine run_skip <| run_inBlock <| run_region <| rl_v rfl rfl rfl (ov_move rfl rfl) <| rl_v rfl rfl rfl (ov_add rfl rfl rfl (by omega)) ?_
   refine rl_v rfl rfl rfl (ov_assign rfl rfl) <| rl_nil ?_
   refine Run.use (ih5 (i + 1) _ ?_ ?_) (And.intro (by exact slot_int rfl (by first | omega)) (And.intro rfl (And.intro rfl (And.intro rfl (And.intro rfl trivial)))))
   ·first | omega | (dsimp only; omega)
   ·exact ⟨by omega, by omega, by rw [MW.bothTo_hd hi2 (by simpa using hq2)]; exact WAt.push hO2 hK2 hPl2⟩
 ·have hi3 : i = 3 := by omega
  subst hi3
  refine run_exit rfl <| run_end Try.func135 (res0 Try.results135) ?_
  exact ⟨rfl, hW.drop⟩
theorem WAt.know {B : Nat} {w0 w : World} {A : WA} {X : MW} {K : WC} {N R Pl : List (Option Blk)} {d : Int} {s : Ds} (hO : Own B w0 w ((K.M A X ++ (N ++ R)).set 4 (some (mch K.mb (mput K.L d (dsv s)))))) (hK : WOk X K N) (hPl : ∀ y ∈ Pl, y ∈ N) : WAt B w0 w A (X.know d s) Pl R :=
 ⟨{ K with L := mput K.L d (dsv s) }, N, hO, { hK with mp := hK.mp.put d s }, hPl⟩
theorem turn_any (A : WA) (X : MW) (d st k : Int) (B : Nat) (Pl R : List (Option Blk)) (w0 w : World) (hb : X.bag.length + 2 ≤ 4000000000000) (h : WAt B w0 w A X Pl R) :
  Calls Try.prog 102 #[ptr A.C, iv d, iv st, iv k] w fun e w' => e = .returned (.tuple #[]) ∧ WAt B w0 w' A (X.turn d st k) Pl R := by
 obtain ⟨K, N, hO, hK, hPl⟩ := h
 refine calls_of_run (F := [(0, _), (1, _), (2, _), (3, _)]) Try.func102 rfl Try.ntmps102 rfl rfl <| run_seq <| run_region <| rl_v rfl rfl rfl (ov_move rfl rfl) <| rl_v rfl rfl rfl (ov_nil rfl rfl) <| rl_v rfl rfl rfl (ov_fieldS rfl Try.underlying191 rfl (fo := 5) rfl (by kernel_rfl) rfl) ?_
 refine rl_v rfl rfl rfl (ov_load rfl Try.underlying186 rfl rfl (by exact hO.cellL 1 rfl rfl)) ?_
 refine rl_v rfl rfl rfl (ov_move rfl rfl) <| rl_v rfl rfl rfl (ov_move rfl rfl) <| rl_v rfl rfl rfl (ov_buildL rfl lay_239 rfl (us := [_, _, _, _, _]) rfl) <| rl_ow rfl (ow_mapput rfl rfl Try.underlying186 Try.underlying3 hO 4 rfl rfl rfl rfl) ?_
 rintro _ w1 ⟨rfl, hO2, hs3⟩
 refine rl_nil <| run_region <| rl_v rfl rfl rfl (ov_move rfl rfl) <| rl_v rfl rfl rfl (ov_move rfl rfl) <| rl_v rfl rfl rfl (ov_move rfl rfl) <| rl_v rfl rfl rfl (ov_buildA0 rfl Try.underlying237 zero_237 (s := 1) (by kernel_rfl)) ?_
 refine rl_call callable_135 rfl rfl rfl rfl rfl rfl (sendBoth_any A (X.know d (Ds.s st)) k d false false false B Pl R w0 w1 hb (WAt.know (s := Ds.s st) hO2 hK hPl)) (fun e4 w5 hp6 => ?_)
 obtain ⟨rfl, hW⟩ := hp6
 refine ⟨_, rfl, ?_⟩
 refine rl_nil <| run_end Try.func102 (res0 Try.results102) ?_
 exact ⟨rfl, hW⟩
theorem siteSend_any (A : WA) (X : MW) (n k d : Int) (B : Nat) (Pl R : List (Option Blk)) (w0 w : World) (hn : n = 1 ∨ n = 2) (hb : X.bag.length < 4000000000000) (h : WAt B w0 w A X Pl R) :
  Calls Try.prog 185 #[ptr (A.node n), iv k, iv d] w fun e w' => e = .returned (.tuple #[]) ∧ WAt B w0 w' A (X.send ⟨n, 0, k, d⟩) Pl R := by
 obtain ⟨K, N, hO, hK, hPl⟩ := h
 obtain ⟨q, rv, fv, hq4, hk, hr, hv⟩ := hK.site A hn
 refine calls_of_run (F := [(0, _), (1, _), (2, _)]) Try.func185 rfl Try.ntmps185 rfl rfl <| run_tail 11 mixed (by kernel_rfl) ?_
 have hO2 := hO.drew
 generalize World.drew w = w1 at hO2 ⊢
 refine rt_v rfl rfl rfl (ov_move rfl rfl) <| rt_v rfl rfl rfl (ov_nil rfl rfl) <| rt_v rfl rfl rfl (ov_fieldS rfl Try.underlying194 rfl (fo := 4) rfl (by kernel_rfl) rfl) ?_
 refine rt_v rfl rfl rfl (ov_load rfl Try.underlying100 rfl rfl (by exact hO2.cellL q (hk _) rfl)) ?_
 refine rt_v rfl rfl rfl (ov_move rfl rfl) <| rt_v rfl rfl rfl (ov_nil rfl rfl) <| rt_v rfl rfl rfl (ov_fieldS rfl Try.underlying194 rfl (fo := 5) rfl (by kernel_rfl) rfl) ?_
 refine rt_v rfl rfl rfl (ov_load rfl Try.underlying3 rfl rfl (by exact hO2.cellL q (hk _) rfl)) ?_
 refine rt_v rfl rfl rfl (ov_move rfl rfl) <| rt_v rfl rfl rfl (ov_move rfl rfl) <| rt_v rfl rfl rfl (ov_buildL rfl lay_201 rfl (us := [_, _, _, _]) rfl) <| rt_nil ?_
 refine rl_call callable_144 rfl rfl rfl rfl rfl rfl (send_any A X ⟨n, 0, k, d⟩ B Pl R w0 w1 ⟨K, N, hO2, hK, hPl⟩ hb) (fun e3 w4 hp5 => ?_)
 obtain ⟨rfl, hW⟩ := hp5
 refine ⟨_, rfl, ?_⟩
 refine rl_nil <| run_end Try.func185 (res0 Try.results185) ?_
 exact ⟨rfl, hW⟩
namespace MW
theorem sAsk_a {X : MW} {n d : Int} (h : X.amount n d ≤ X.free n (X.payer n d)) (hok : X.ok n = true) : X.sAsk n d 0 = ((X.wr n (1, d)).send ⟨n, 0, 2, d⟩, true) := by
 unfold sAsk; rw [if_pos rfl, if_pos h, if_pos hok]
theorem sAsk_b {X : MW} {n d : Int} (h : X.amount n d ≤ X.free n (X.payer n d)) (hok : X.ok n = false) : X.sAsk n d 0 = (X.wr n (1, d), false) := by
 unfold sAsk; rw [if_pos rfl, if_pos h, if_neg (by rw [hok]; exact Bool.noConfusion)]
theorem sAsk_c {X : MW} {n d : Int} (h : ¬ X.amount n d ≤ X.free n (X.payer n d)) : X.sAsk n d 0 = (X.send ⟨n, 0, 3, d⟩, true) := by
 unfold sAsk; rw [if_pos rfl, if_neg h]
theorem sAsk_d {X : MW} {n d st : Int} (h0 : ¬ st = 0) (h : st = 1 ∨ st = 2) : X.sAsk n d st = (X.send ⟨n, 0, 2, d⟩, true) := by
 unfold sAsk; rw [if_neg h0, if_pos h]
theorem sAsk_e {X : MW} {n d st : Int} (h0 : ¬ st = 0) (h : ¬ (st = 1 ∨ st = 2)) : X.sAsk n d st = (X.send ⟨n, 0, 3, d⟩, true) := by
 unfold sAsk; rw [if_neg h0, if_neg h]
theorem setLg_bag (X : MW) (n : Int) (l : Lg) : (X.setLg n l).bag = X.bag := by unfold setLg; split; rfl; split <;> rfl
theorem wr_bag (X : MW) (n : Int) (r : Rc) : (X.wr n r).bag = X.bag := X.setLg_bag n _
end MW
theorem ask_any (A : WA) (X : MW) (n d st : Int) (B : Nat) (Pl R : List (Option Blk)) (w0 w : World) (hn : n = 1 ∨ n = 2) (hG : Good X) (hb : X.bag.length < 4000000000000) (hd : 1 ≤ d ∧ d ≤ X.deals.length) (h : WAt B w0 w A X Pl R) :
  Calls Try.prog 184 #[ptr (A.node n), iv d, iv st] w fun e w' => Burns (X.sAsk n d st).2 e (WAt B w0 w' A (X.sAsk n d st).1 Pl R) := by
 obtain ⟨K, N, hO, hK, hPl⟩ := h
 obtain ⟨q, rv, fv, hq4, hk, hr, hv⟩ := hK.site A hn
 have hn3 : n = 0 ∨ n = 1 ∨ n = 2 := by omega
 have hlen := hG.len hn3
 refine calls_of_run (F := [(0, _), (1, _), (2, _)]) Try.func184 rfl Try.ntmps184 rfl rfl <| run_seq <| run_seq <| run_region <| rl_v rfl rfl rfl (ov_move rfl rfl) <| rl_v rfl rfl rfl (ov_eql rfl rfl rfl) <| rl_nil ?_
 first | refine run_cond_dec rfl (fun h0 => ?_) (fun h0n => ?_) | refine run_cond rfl (fun h0 => ?_) (fun h0n => ?_)
 ·subst h0
  have hpy := hG.pays (n := n) hd
  have hm := hG.fl n hn
  refine run_seq <| run_region <| rl_v rfl rfl rfl (ov_move rfl rfl) <| rl_v rfl rfl rfl (ov_move rfl rfl) ?_
  refine rl_call callable_138 rfl rfl rfl rfl rfl rfl (leg_any A X K n d rv fv q 0 B _ N w0 w hd hG.dn (hG.dl d hd.1 hd.2) hG.mem.2 hO (hk _) rfl hK mem6) (fun e1 w2 hp3 => ?_)
  obtain ⟨rfl, hO2⟩ := hp3
  refine ⟨_, rfl, ?_⟩
  refine rl_v rfl rfl rfl (ov_move rfl rfl) <| rl_v rfl rfl rfl (ov_extract rfl rfl (by rfl)) ?_
  refine rl_v rfl rfl rfl (ov_extract rfl rfl (by rfl)) ?_
  refine rl_v rfl rfl rfl (ov_extract rfl rfl (by rfl)) ?_
  refine rl_v rfl rfl rfl (ov_assign rfl rfl) <| rl_v rfl rfl rfl (ov_assign rfl rfl) <| rl_v rfl rfl rfl (ov_assign rfl rfl) <| rl_nil <| run_seq <| run_region <| rl_v rfl rfl rfl (ov_move rfl rfl) ?_
  refine rl_call callable_107 rfl rfl rfl rfl rfl rfl (accounts_any A X K n rv fv q 0 B _ N w0 w2 hn hG hO2 (hk _) rfl hK hr hv mem6) (fun e4 w5 hp6 => ?_)
  obtain ⟨v1, v2, c1, c2, rfl, hr1, hr2, hO3⟩ := hp6
  refine ⟨_, rfl, ?_⟩
  obtain ⟨a2, p2, rfl⟩ := hr2.val
  obtain ⟨gb, hga, hcells⟩ := hr2.openS hO3 0 rfl
  refine rl_v rfl rfl rfl (ov_move rfl rfl) <| rl_v rfl rfl rfl (ov_extract rfl rfl (by rfl)) ?_
  refine rl_v rfl rfl rfl (ov_extract rfl rfl (by rfl)) ?_
  refine rl_v rfl rfl rfl (ov_assign rfl rfl) <| rl_v rfl rfl rfl (ov_assign rfl rfl) <| rl_nil <| run_seq <| run_region <| rl_v rfl rfl rfl (ov_move rfl rfl) <| rl_v rfl rfl rfl (ov_move rfl rfl) <| rl_v rfl rfl rfl (ov_index1 rfl Try.underlying22 (by kernel_rfl) rfl rfl ⟨by omega, by omega⟩ (by exact hga (by omega))) ?_
  refine rl_v rfl rfl rfl (ov_load rfl Try.underlying2 rfl rfl (by exact hcells _ (by omega) (by omega))) ?_
  refine rl_v rfl rfl rfl (ov_move rfl rfl) <| rl_v rfl rfl rfl (ov_geq rfl rfl rfl) <| rl_nil ?_
  first | refine run_cond_dec rfl (fun hle => ?_) (fun hnle => ?_) | refine run_cond rfl (fun hle => ?_) (fun hnle => ?_)
  ·refine run_seq <| run_region <| rl_v rfl rfl rfl (ov_move rfl rfl) <| rl_v rfl rfl rfl (ov_nil rfl rfl) <| rl_v rfl rfl rfl (ov_fieldS rfl Try.underlying194 rfl (fo := 0) rfl (by kernel_rfl) rfl) ?_
   refine rl_v rfl rfl rfl (ov_move rfl rfl) ?_
   refine rl_callP callable_177 rfl rfl rfl rfl rfl rfl ⟨_, Try.func184⟩ (write_any A X n (1, d) B Pl R w0 w5 hn3 (by omega) (hG.fu n hn3).2 ⟨K, N, hO3.tail.tail, hK, hPl⟩) (fun e7 w8 hp9 => ?_)
   rcases hp9 with ⟨rfl, ⟨hok, hW⟩⟩ | ⟨rfl, ⟨hok, hW⟩⟩
   case inr => exact .inr ⟨_, rfl, by rw [MW.sAsk_b hle hok]; exact .inr ⟨rfl, rfl, hW⟩⟩
   refine .inl ⟨_, rfl, ?_⟩
   refine rl_nil <| run_region <| rl_v rfl rfl rfl (ov_assign rfl rfl) <| rl_nil <| run_seq <| run_region <| rl_v rfl rfl rfl (ov_move rfl rfl) <| rl_v rfl rfl rfl (ov_eql rfl rfl rfl) <| rl_v rfl rfl rfl (ov_move rfl rfl) <| rl_known 38 rfl (rfl) <| rl_gskip rfl rfl rfl rfl rfl rfl <| rl_gskip rfl rfl rfl rfl rfl rfl <| rl_v rfl rfl rfl (ov_pick_t rfl rfl rfl) <| rl_nil <| run_cond_t rfl <| run_region <| rl_v rfl rfl rfl (ov_move rfl rfl) <| rl_v rfl rfl rfl (ov_move rfl rfl) ?_
   refine rl_call callable_185 rfl rfl rfl rfl rfl rfl (siteSend_any A (X.wr n (1, d)) n 2 d B Pl R w0 w8 hn (by rw [MW.wr_bag]; exact hb) hW) (fun e10 w11 hp12 => ?_)
   obtain ⟨rfl, hW2⟩ := hp12
   refine ⟨_, rfl, ?_⟩
   refine rl_nil <| run_end Try.func184 (res0 Try.results184) ?_
   exact by rw [MW.sAsk_a hle hok]; exact .inl ⟨rfl, rfl, hW2⟩
  ·have hW : WAt B w0 w5 A X Pl R := ⟨K, N, hO3.tail.tail, hK, hPl⟩
   refine run_skip <| run_seq <| run_region <| rl_v rfl rfl rfl (ov_move rfl rfl) <| rl_v rfl rfl rfl (ov_eql rfl rfl rfl) <| rl_v rfl rfl rfl (ov_move rfl rfl) ?_
   first | refine rl_split_dec 38 rfl (fun g1 => ?_) (fun g1 => ?_) | refine rl_split 38 rfl (fun g1 => ?_) (fun g1 => ?_)
   ·refine rl_gskip rfl rfl rfl rfl rfl rfl <| rl_gskip rfl rfl rfl rfl rfl rfl <| rl_v rfl rfl rfl (ov_pick_t rfl rfl rfl) <| rl_nil <| run_cond_t rfl ?_
    exfalso; cases g1
   ·refine rl_gv rfl rfl rfl rfl rfl (ov_move rfl rfl) <| rl_gv rfl rfl rfl rfl rfl (ov_eql rfl rfl rfl) <| rl_v rfl rfl rfl (ov_pick_f rfl rfl rfl) <| rl_nil ?_
    first | refine run_cond_dec rfl (fun g2 => ?_) (fun g2 => ?_) | refine run_cond rfl (fun g2 => ?_) (fun g2 => ?_)
    ·exfalso; cases g2
    ·refine run_region <| rl_v rfl rfl rfl (ov_move rfl rfl) <| rl_v rfl rfl rfl (ov_move rfl rfl) ?_
     refine rl_call callable_185 rfl rfl rfl rfl rfl rfl (siteSend_any A X n 3 d B Pl R w0 w5 hn hb hW) (fun e14 w15 hp16 => ?_)
     obtain ⟨rfl, hW2⟩ := hp16
     refine ⟨_, rfl, ?_⟩
     refine rl_nil <| run_end Try.func184 (res0 Try.results184) ?_
     exact by rw [MW.sAsk_c hnle]; exact .inl ⟨rfl, rfl, hW2⟩
 ·have hW : WAt B w0 w A X Pl R := ⟨K, N, hO, hK, hPl⟩
  refine run_skip <| run_seq <| run_region <| rl_v rfl rfl rfl (ov_move rfl rfl) <| rl_v rfl rfl rfl (ov_eql rfl rfl rfl) <| rl_v rfl rfl rfl (ov_move rfl rfl) ?_
  first | refine rl_split_dec 38 rfl (fun g1 => ?_) (fun g1 => ?_) | refine rl_split 38 rfl (fun g1 => ?_) (fun g1 => ?_)
  ·refine rl_gskip rfl rfl rfl rfl rfl rfl <| rl_gskip rfl rfl rfl rfl rfl rfl <| rl_v rfl rfl rfl (ov_pick_t rfl rfl rfl) <| rl_nil <| run_cond_t rfl <| run_region <| rl_v rfl rfl rfl (ov_move rfl rfl) <| rl_v rfl rfl rfl (ov_move rfl rfl) ?_
   refine rl_call callable_185 rfl rfl rfl rfl rfl rfl (siteSend_any A X n 2 d B Pl R w0 w hn hb hW) (fun e18 w19 hp20 => ?_)
   obtain ⟨rfl, hW2⟩ := hp20
   refine ⟨_, rfl, ?_⟩
   refine rl_nil <| run_end Try.func184 (res0 Try.results184) ?_
   exact by rw [MW.sAsk_d h0n (.inl g1)]; exact .inl ⟨rfl, rfl, hW2⟩
  ·refine rl_gv rfl rfl rfl rfl rfl (ov_move rfl rfl) <| rl_gv rfl rfl rfl rfl rfl (ov_eql rfl rfl rfl) <| rl_v rfl rfl rfl (ov_pick_f rfl rfl rfl) <| rl_nil ?_
   first | refine run_cond_dec rfl (fun g2 => ?_) (fun g2 => ?_) | refine run_cond rfl (fun g2 => ?_) (fun g2 => ?_)
   ·refine run_region <| rl_v rfl rfl rfl (ov_move rfl rfl) <| rl_v rfl rfl rfl (ov_move rfl rfl) ?_
    refine rl_call callable_185 rfl rfl rfl rfl rfl rfl (siteSend_any A X n 2 d B Pl R w0 w hn hb hW) (fun e21 w22 hp23 => ?_)
    obtain ⟨rfl, hW2⟩ := hp23
    refine ⟨_, rfl, ?_⟩
    refine rl_nil <| run_end Try.func184 (res0 Try.results184) ?_
    exact by rw [MW.sAsk_d h0n (.inr g2)]; exact .inl ⟨rfl, rfl, hW2⟩
   ·refine run_region <| rl_v rfl rfl rfl (ov_move rfl rfl) <| rl_v rfl rfl rfl (ov_move rfl rfl) ?_
    refine rl_call callable_185 rfl rfl rfl rfl rfl rfl (siteSend_any A X n 3 d B Pl R w0 w hn hb hW) (fun e24 w25 hp26 => ?_)
    obtain ⟨rfl, hW2⟩ := hp26
    refine ⟨_, rfl, ?_⟩
    refine rl_nil <| run_end Try.func184 (res0 Try.results184) ?_
    exact by rw [MW.sAsk_e h0n (by omega)]; exact .inl ⟨rfl, rfl, hW2⟩
theorem siteTake_any (A : WA) (X : MW) (n : Int) (m : Ms) (B : Nat) (Pl R : List (Option Blk)) (w0 w : World) (hn : n = 1 ∨ n = 2) (hG : Good X) (hb : X.bag.length < 4000000000000) (hd : 1 ≤ m.d ∧ m.d ≤ X.deals.length) (h : WAt B w0 w A X Pl R) :
  Calls Try.prog 181 #[ptr (A.node n), .agg (msl m).toArray] w fun e w' => Burns (X.sTake n m).2 e (WAt B w0 w' A (X.sTake n m).1 Pl R) := by
 obtain ⟨K, N, hO, hK, hPl⟩ := h
 obtain ⟨q, rv, fv, hq4, hk, hr, hv⟩ := hK.site A hn
 have hn3 : n = 0 ∨ n = 1 ∨ n = 2 := by omega
 have hlen := hG.len hn3
 have hfu := (hG.fu n hn3).2
 refine calls_of_run (F := [(0, _), (1, _)]) Try.func181 rfl Try.ntmps181 rfl rfl <| run_seq <| run_region <| rl_ow rfl (ow_box _ rfl rfl rfl rfl rfl hO) ?_
 rintro _ w1 ⟨b3, rfl, hO2, hs3⟩
 refine rl_nil <| run_seq <| run_region <| rl_v rfl rfl rfl (ov_move rfl rfl) <| rl_v rfl rfl rfl (ov_fieldS rfl Try.underlying201 rfl (fo := 3) rfl (by kernel_rfl) rfl) ?_
 refine rl_v rfl rfl rfl (ov_load rfl Try.underlying3 rfl rfl (by exact hO2.cellL 0 rfl rfl)) ?_
 refine rl_call callable_183 rfl rfl rfl rfl rfl rfl (state_any (A.node n) rv _ (X.lg n) m.d (q + 1) B _ N w0 w1 (by omega) hO2 (hk _) hr mem7) (fun e4 w5 hp6 => ?_)
 obtain ⟨rfl, hO2⟩ := hp6
 refine ⟨_, rfl, ?_⟩
 have hW : WAt B w0 w5 A X Pl (_ :: R) := WAt.push hO2 hK hPl
 refine rl_v rfl rfl rfl (ov_assign rfl rfl) <| rl_nil <| run_seq <| run_region <| rl_v rfl rfl rfl (ov_fieldS rfl Try.underlying201 rfl (fo := 2) rfl (by kernel_rfl) rfl) ?_
 refine rl_v rfl rfl rfl (ov_load rfl Try.underlying3 rfl rfl (by exact hO2.cellL 0 rfl rfl)) ?_
 refine rl_nil <| run_block <| run_seq <| run_region <| rl_v rfl rfl rfl (ov_eql rfl rfl rfl) <| rl_v rfl rfl rfl (ov_assign rfl rfl) <| rl_nil ?_
 first | refine run_cond_dec rfl (fun k1 => ?_) (fun k1n => ?_) | refine run_cond rfl (fun k1 => ?_) (fun k1n => ?_)
 ·refine run_region <| rl_v rfl rfl rfl (ov_move rfl rfl) <| rl_v rfl rfl rfl (ov_fieldS rfl Try.underlying201 rfl (fo := 3) rfl (by kernel_rfl) rfl) ?_
  refine rl_v rfl rfl rfl (ov_load rfl Try.underlying3 rfl rfl (by exact hO2.cellL 0 rfl rfl)) ?_
  refine rl_v rfl rfl rfl (ov_move rfl rfl) ?_
  refine rl_callP callable_184 rfl rfl rfl rfl rfl rfl ⟨_, Try.func181⟩ (ask_any A X n m.d ((X.lg n).state m.d) B Pl _ w0 w5 hn hG hb hd hW) (fun e7 w8 hp9 => ?_)
  rcases hp9 with ⟨rfl, ⟨hok, hW2⟩⟩ | ⟨rfl, ⟨hok, hW2⟩⟩
  case inr => exact .inr ⟨_, rfl, by unfold MW.sTake; rw [if_pos (show m.k = 1 from k1)]; exact .inr ⟨rfl, hok, hW2.drop⟩⟩
  refine .inl ⟨_, rfl, ?_⟩
  refine rl_nil <| run_inBlock <| run_end Try.func181 (res0 Try.results181) ?_
  exact by unfold MW.sTake; rw [if_pos (show m.k = 1 from k1)]; exact .inl ⟨rfl, hok, hW2.drop⟩
 ·refine run_seq <| run_region <| rl_v rfl rfl rfl (ov_eql rfl rfl rfl) <| rl_v rfl rfl rfl (ov_assign rfl rfl) <| rl_nil ?_
  first | refine run_cond_dec rfl (fun k4 => ?_) (fun k4n => ?_) | refine run_cond rfl (fun k4 => ?_) (fun k4n => ?_)
  ·refine run_seq <| run_seq <| run_region <| rl_v rfl rfl rfl (ov_move rfl rfl) <| rl_v rfl rfl rfl (ov_eql rfl rfl rfl) <| rl_nil ?_
   first | refine run_cond_dec rfl (fun s1 => ?_) (fun s1n => ?_) | refine run_cond rfl (fun s1 => ?_) (fun s1n => ?_)
   ·refine run_seq <| run_tail 5 mixed (by kernel_rfl) ?_
    have hO11 := hO2.drew
    generalize World.drew w5 = w10 at hO11 ⊢
    refine rt_v rfl rfl rfl (ov_move rfl rfl) <| rt_v rfl rfl rfl (ov_nil rfl rfl) <| rt_v rfl rfl rfl (ov_fieldS rfl Try.underlying194 rfl (fo := 0) rfl (by kernel_rfl) rfl) ?_
    refine rt_v rfl rfl rfl (ov_fieldS rfl Try.underlying201 rfl (fo := 3) rfl (by kernel_rfl) rfl) ?_
    refine rt_v rfl rfl rfl (ov_load rfl Try.underlying3 rfl rfl (by exact hO11.cellL 0 rfl rfl)) ?_
    refine rt_nil ?_
    refine rl_callP callable_177 rfl rfl rfl rfl rfl rfl ⟨_, Try.func181⟩ (write_any A X n (2, m.d) B Pl _ w0 w10 hn3 (by omega) hfu (WAt.push hO11 hK hPl)) (fun e12 w13 hp14 => ?_)
    rcases hp14 with ⟨rfl, ⟨hok, hW2⟩⟩ | ⟨rfl, ⟨hok, hW2⟩⟩
    case inr => exact .inr ⟨_, rfl, by unfold MW.sTake; rw [if_neg (show ¬ m.k = 1 from k1n), if_pos (show m.k = 4 from k4), if_pos s1, if_neg (by rw [hok]; exact Bool.noConfusion)]; exact .inr ⟨rfl, rfl, hW2.drop⟩⟩
    refine .inl ⟨_, rfl, ?_⟩
    obtain ⟨K4, N4, hO4, hK4, hPl4⟩ := hW2.pull
    refine rl_nil <| run_region <| rl_v rfl rfl rfl (ov_assign rfl rfl) <| rl_nil <| run_seq <| run_region <| rl_v rfl rfl rfl (ov_move rfl rfl) <| rl_v rfl rfl rfl (ov_eql rfl rfl rfl) <| rl_nil ?_
    first | refine run_cond_dec rfl (fun z => ?_) (fun zn => ?_) | refine run_cond rfl (fun z => ?_) (fun zn => ?_)
    ·refine run_region <| rl_v rfl rfl rfl (ov_move rfl rfl) <| rl_v rfl rfl rfl (ov_fieldS rfl Try.underlying201 rfl (fo := 3) rfl (by kernel_rfl) rfl) ?_
     refine rl_v rfl rfl rfl (ov_load rfl Try.underlying3 rfl rfl (by exact hO4.cellL 0 rfl rfl)) ?_
     refine rl_call callable_185 rfl rfl rfl rfl rfl rfl (siteSend_any A (X.wr n (2, m.d)) n 6 m.d B Pl R w0 w13 hn (by rw [MW.wr_bag]; exact hb) hW2.drop) (fun e15 w16 hp17 => ?_)
     obtain ⟨rfl, hW3⟩ := hp17
     refine ⟨_, rfl, ?_⟩
     refine rl_nil <| run_inBlock <| run_end Try.func181 (res0 Try.results181) ?_
     exact by unfold MW.sTake; rw [if_neg (show ¬ m.k = 1 from k1n), if_pos (show m.k = 4 from k4), if_pos s1, if_pos hok]; exact .inl ⟨rfl, rfl, hW3⟩
    ·exfalso; exact zn rfl
   ·refine run_skip <| run_seq <| run_region <| rl_v rfl rfl rfl (ov_move rfl rfl) <| rl_v rfl rfl rfl (ov_eql rfl rfl rfl) <| rl_nil ?_
    first | refine run_cond_dec rfl (fun s2 => ?_) (fun s2n => ?_) | refine run_cond rfl (fun s2 => ?_) (fun s2n => ?_)
    ·refine run_region <| rl_v rfl rfl rfl (ov_move rfl rfl) <| rl_v rfl rfl rfl (ov_fieldS rfl Try.underlying201 rfl (fo := 3) rfl (by kernel_rfl) rfl) ?_
     refine rl_v rfl rfl rfl (ov_load rfl Try.underlying3 rfl rfl (by exact hO2.cellL 0 rfl rfl)) ?_
     refine rl_call callable_185 rfl rfl rfl rfl rfl rfl (siteSend_any A X n 6 m.d B Pl R w0 w5 hn hb hW.drop) (fun e18 w19 hp20 => ?_)
     obtain ⟨rfl, hW3⟩ := hp20
     refine ⟨_, rfl, ?_⟩
     refine rl_nil <| run_inBlock <| run_end Try.func181 (res0 Try.results181) ?_
     exact by unfold MW.sTake; rw [if_neg (show ¬ m.k = 1 from k1n), if_pos (show m.k = 4 from k4), if_neg s1n, if_pos s2]; exact .inl ⟨rfl, rfl, hW3⟩
    ·refine run_skip <| run_inBlock <| run_end Try.func181 (res0 Try.results181) ?_
     exact by unfold MW.sTake; rw [if_neg (show ¬ m.k = 1 from k1n), if_pos (show m.k = 4 from k4), if_neg s1n, if_neg s2n]; exact .inl ⟨rfl, rfl, hW.drop⟩
  ·refine run_seq <| run_region <| rl_v rfl rfl rfl (ov_eql rfl rfl rfl) <| rl_v rfl rfl rfl (ov_assign rfl rfl) <| rl_nil ?_
   first | refine run_cond_dec rfl (fun k5 => ?_) (fun k5n => ?_) | refine run_cond rfl (fun k5 => ?_) (fun k5n => ?_)
   ·refine run_seq <| run_seq <| run_region <| rl_v rfl rfl rfl (ov_move rfl rfl) <| rl_v rfl rfl rfl (ov_eql rfl rfl rfl) <| rl_nil ?_
    first | refine run_cond_dec rfl (fun s1 => ?_) (fun s1n => ?_) | refine run_cond rfl (fun s1 => ?_) (fun s1n => ?_)
    ·refine run_seq <| run_tail 5 mixed (by kernel_rfl) ?_
     have hO22 := hO2.drew
     generalize World.drew w5 = w21 at hO22 ⊢
     refine rt_v rfl rfl rfl (ov_move rfl rfl) <| rt_v rfl rfl rfl (ov_nil rfl rfl) <| rt_v rfl rfl rfl (ov_fieldS rfl Try.underlying194 rfl (fo := 0) rfl (by kernel_rfl) rfl) ?_
     refine rt_v rfl rfl rfl (ov_fieldS rfl Try.underlying201 rfl (fo := 3) rfl (by kernel_rfl) rfl) ?_
     refine rt_v rfl rfl rfl (ov_load rfl Try.underlying3 rfl rfl (by exact hO22.cellL 0 rfl rfl)) ?_
     refine rt_nil ?_
     refine rl_callP callable_177 rfl rfl rfl rfl rfl rfl ⟨_, Try.func181⟩ (write_any A X n (3, m.d) B Pl _ w0 w21 hn3 (by omega) hfu (WAt.push hO22 hK hPl)) (fun e23 w24 hp25 => ?_)
     rcases hp25 with ⟨rfl, ⟨hok, hW2⟩⟩ | ⟨rfl, ⟨hok, hW2⟩⟩
     case inr => exact .inr ⟨_, rfl, by unfold MW.sTake; rw [if_neg (show ¬ m.k = 1 from k1n), if_neg (show ¬ m.k = 4 from k4n), if_pos (show m.k = 5 from k5), if_pos s1, if_neg (by rw [hok]; exact Bool.noConfusion)]; exact .inr ⟨rfl, rfl, hW2.drop⟩⟩
     refine .inl ⟨_, rfl, ?_⟩
     obtain ⟨K4, N4, hO4, hK4, hPl4⟩ := hW2.pull
     refine rl_nil <| run_region <| rl_v rfl rfl rfl (ov_assign rfl rfl) <| rl_nil <| run_seq <| run_region <| rl_v rfl rfl rfl (ov_move rfl rfl) <| rl_v rfl rfl rfl (ov_neq rfl rfl rfl) <| rl_nil ?_
     first | refine run_cond_dec rfl (fun z => ?_) (fun zn => ?_) | refine run_cond rfl (fun z => ?_) (fun zn => ?_)
     ·refine run_region <| rl_v rfl rfl rfl (ov_move rfl rfl) <| rl_v rfl rfl rfl (ov_fieldS rfl Try.underlying201 rfl (fo := 3) rfl (by kernel_rfl) rfl) ?_
      refine rl_v rfl rfl rfl (ov_load rfl Try.underlying3 rfl rfl (by exact hO4.cellL 0 rfl rfl)) ?_
      refine rl_call callable_185 rfl rfl rfl rfl rfl rfl (siteSend_any A (X.wr n (3, m.d)) n 6 m.d B Pl R w0 w24 hn (by rw [MW.wr_bag]; exact hb) hW2.drop) (fun e26 w27 hp28 => ?_)
      obtain ⟨rfl, hW3⟩ := hp28
      refine ⟨_, rfl, ?_⟩
      refine rl_nil <| run_inBlock <| run_end Try.func181 (res0 Try.results181) ?_
      exact by unfold MW.sTake; rw [if_neg (show ¬ m.k = 1 from k1n), if_neg (show ¬ m.k = 4 from k4n), if_pos (show m.k = 5 from k5), if_pos s1, if_pos hok]; exact .inl ⟨rfl, rfl, hW3⟩
     ·exfalso; exact zn (by decide)
    ·refine run_skip <| run_seq <| run_region <| rl_v rfl rfl rfl (ov_move rfl rfl) <| rl_v rfl rfl rfl (ov_neq rfl rfl rfl) <| rl_nil ?_
     first | refine run_cond_dec rfl (fun s2 => ?_) (fun s2n => ?_) | refine run_cond rfl (fun s2 => ?_) (fun s2n => ?_)
     ·refine run_region <| rl_v rfl rfl rfl (ov_move rfl rfl) <| rl_v rfl rfl rfl (ov_fieldS rfl Try.underlying201 rfl (fo := 3) rfl (by kernel_rfl) rfl) ?_
      refine rl_v rfl rfl rfl (ov_load rfl Try.underlying3 rfl rfl (by exact hO2.cellL 0 rfl rfl)) ?_
      refine rl_call callable_185 rfl rfl rfl rfl rfl rfl (siteSend_any A X n 6 m.d B Pl R w0 w5 hn hb hW.drop) (fun e29 w30 hp31 => ?_)
      obtain ⟨rfl, hW3⟩ := hp31
      refine ⟨_, rfl, ?_⟩
      refine rl_nil <| run_inBlock <| run_end Try.func181 (res0 Try.results181) ?_
      exact by unfold MW.sTake; rw [if_neg (show ¬ m.k = 1 from k1n), if_neg (show ¬ m.k = 4 from k4n), if_pos (show m.k = 5 from k5), if_neg s1n, if_pos s2]; exact .inl ⟨rfl, rfl, hW3⟩
     ·refine run_skip <| run_inBlock <| run_end Try.func181 (res0 Try.results181) ?_
      exact by unfold MW.sTake; rw [if_neg (show ¬ m.k = 1 from k1n), if_neg (show ¬ m.k = 4 from k4n), if_pos (show m.k = 5 from k5), if_neg s1n, if_neg s2n]; exact .inl ⟨rfl, rfl, hW.drop⟩
   ·refine run_skip <| run_inBlock <| run_end Try.func181 (res0 Try.results181) ?_
    exact by unfold MW.sTake; rw [if_neg (show ¬ m.k = 1 from k1n), if_neg (show ¬ m.k = 4 from k4n), if_neg (show ¬ m.k = 5 from k5n)]; exact .inl ⟨rfl, rfl, hW.drop⟩
namespace MW
theorem sTick_same (X : MW) (n : Int) : ∀ k : Nat, (X.sTick n k).lg = X.lg ∧ (X.sTick n k).deals = X.deals ∧ (X.sTick n k).bag.length ≤ X.bag.length + k
 | 0 => ⟨rfl, rfl, Nat.le_refl _⟩
 | k + 1 => by
  have ih := sTick_same X n k
  unfold sTick sTick1
  split
  ·refine ⟨ih.1, ih.2.1, ?_⟩
   rw [send_len]; omega
  ·exact ⟨ih.1, ih.2.1, by omega⟩
end MW
theorem siteTick_any (A : WA) (X : MW) (n : Int) (B : Nat) (Pl R : List (Option Blk)) (w0 w : World) (hn : n = 1 ∨ n = 2) (hG : Good X) (hb : X.bag.length + 1000 < 4000000000000) (h : WAt B w0 w A X Pl R) :
  Calls Try.prog 182 #[ptr (A.node n)] w fun e w' => e = .returned (.tuple #[]) ∧ WAt B w0 w' A (X.sTick n X.deals.length) Pl R := by
 have hn3 : n = 0 ∨ n = 1 ∨ n = 2 := by omega
 have hlen := hG.len hn3
 have hdn := hG.dn
 have h0 := h
 obtain ⟨K, N, hO, hK, hPl⟩ := h
 refine calls_of_run (F := [(0, _)]) Try.func182 rfl Try.ntmps182 rfl rfl <| run_seq <| run_region <| rl_v rfl rfl rfl (ov_assign rfl rfl) <| rl_nil <| run_block <| Run.keep [0, 2] (F' := [(0, _), (2, _)]) rfl <| run_loop2 (fun (i : Int) (k : Nat) => [(2, .int .i64 i)]) [0] (fun (i : Int) (k : Nat) (w1 : World) => i = k + 1 ∧ k ≤ X.deals.length ∧ WAt B w0 w1 A (X.sTick n k) Pl R) (fun (i : Int) (k : Nat) => X.deals.length - k) (1) (0) ?_ (And.intro (by exact slot_int rfl (by first | omega)) (And.intro rfl trivial)) ?_
 ·exact ⟨by omega, by omega, h0⟩
 intro i k w1 hIw1 ih2
 obtain ⟨hi, hk, hW⟩ := hIw1
 show Run _ _ _ _ [(2, _), (0, _)] _ _
 obtain ⟨K2, N2, hO2, hK2, hPl2⟩ := hW
 obtain ⟨q, rv, fv, hq4, hk2, hr, hv⟩ := hK2.site A hn
 obtain ⟨e1, e2, e3⟩ := X.sTick_same n k
 obtain ⟨dao, dcap, hdv, _⟩ := hK2.dv.val
 rw [e2] at hdv
 subst hi
 refine run_seq <| run_seq <| run_region <| rl_v rfl rfl rfl (ov_move rfl rfl) <| rl_v rfl rfl rfl (ov_move rfl rfl) <| rl_v rfl rfl rfl (ov_nil rfl rfl) <| rl_v rfl rfl rfl (ov_fieldS rfl Try.underlying194 rfl (fo := 4) rfl (by kernel_rfl) rfl) ?_
 refine rl_v rfl rfl rfl (ov_load rfl Try.underlying100 rfl rfl (by exact hO2.cellL q (hk2 _) rfl)) ?_
 refine rl_v rfl rfl rfl (ov_nil rfl rfl) <| rl_v rfl rfl rfl (ov_fieldS rfl Try.underlying184 rfl (fo := 4) rfl (by kernel_rfl) rfl) ?_
 refine rl_v rfl rfl rfl (ov_load rfl Try.underlying178 rfl rfl (by exact hO2.cellL 0 rfl (congrArg some hdv))) ?_
 refine rl_v rfl rfl rfl (ov_len rfl Try.underlying178 rfl) <| rl_v rfl rfl rfl (ov_leq rfl rfl rfl) <| rl_nil ?_
 first | refine run_cond_dec rfl (fun hi => ?_) (fun hi => ?_) | refine run_cond rfl (fun hi => ?_) (fun hi => ?_)
 ·refine run_skip <| run_seq <| run_block <| run_seq <| run_region <| rl_v rfl rfl rfl (ov_move rfl rfl) <| rl_v rfl rfl rfl (ov_move rfl rfl) ?_
  refine rl_call callable_183 rfl rfl rfl rfl rfl rfl (state_any (A.node n) rv _ ((X.sTick n k).lg n) ((k : Int) + 1) q B _ N2 w0 w1 (by rw [e1]; omega) hO2 (hk2 _) hr mem6) (fun e3 w4 hp5 => ?_)
  obtain ⟨rfl, hO3⟩ := hp5
  refine ⟨_, rfl, ?_⟩
  have hW : WAt B w0 w4 A (X.sTick n k) Pl R := ⟨K2, N2, hO3, hK2, hPl2⟩
  refine rl_v rfl rfl rfl (ov_eql rfl rfl rfl) <| rl_nil ?_
  first | refine run_cond_dec rfl (fun hs => ?_) (fun hsn => ?_) | refine run_cond rfl (fun hs => ?_) (fun hsn => ?_)
  ·refine run_region <| rl_v rfl rfl rfl (ov_move rfl rfl) <| rl_v rfl rfl rfl (ov_move rfl rfl) ?_
   refine rl_call callable_185 rfl rfl rfl rfl rfl rfl (siteSend_any A (X.sTick n k) n 2 ((k : Int) + 1) B Pl R w0 w4 hn (by omega) hW) (fun e6 w7 hp8 => ?_)
   obtain ⟨rfl, hW3⟩ := hp8
   refine ⟨_, rfl, ?_⟩
   obtain ⟨K4, N4, hO4, hK4, hPl4⟩ := hW3
   refine rl_nil <| run_inBlock <| run_region <| rl_v rfl rfl rfl (ov_move rfl rfl) <| rl_v rfl rfl rfl (ov_add rfl rfl rfl (by omega)) ?_
   refine rl_v rfl rfl rfl (ov_assign rfl rfl) <| rl_nil ?_
   refine Run.use (ih2 ((k : Int) + 1 + 1) (k + 1) _ ?_ ?_) (And.intro (by exact slot_int rfl (by first | omega)) (And.intro rfl trivial))
   ·first | omega | (dsimp only; omega)
   ·exact ⟨by omega, by omega, by unfold MW.sTick MW.sTick1; rw [if_pos hs]; exact ⟨K4, N4, hO4, hK4, hPl4⟩⟩
  ·refine run_skip <| run_inBlock <| run_region <| rl_v rfl rfl rfl (ov_move rfl rfl) <| rl_v rfl rfl rfl (ov_add rfl rfl rfl (by omega)) ?_
   refine rl_v rfl rfl rfl (ov_assign rfl rfl) <| rl_nil ?_
   refine Run.use (ih2 ((k : Int) + 1 + 1) (k + 1) _ ?_ ?_) (And.intro (by exact slot_int rfl (by first | omega)) (And.intro rfl trivial))
   ·first | omega | (dsimp only; omega)
   ·exact ⟨by omega, by omega, by unfold MW.sTick MW.sTick1; rw [if_neg hsn]; exact hW⟩
 ·obtain rfl : k = X.deals.length := by omega
  refine run_exit rfl <| run_end Try.func182 (res0 Try.results182) ?_
  exact ⟨rfl, K2, N2, hO2, hK2, hPl2⟩
end Go.Proofs.Ytfbbagnpdfafjaa
