import Derived.Test.YtfbbagnpdfafjaaSeM
import Derived.Recover
set_option maxRecDepth 100000
namespace Go.Proofs.Ytfbbagnpdfafjaa
open Go.RowKit Go.Proofs
def MsOk (X : MW) (m : Ms) : Prop := (m.t = 0 ∧ (m.f = 1 ∨ m.f = 2) ∨ (m.t = 1 ∨ m.t = 2) ∧ m.f = 0) ∧ 1 ≤ m.d ∧ m.d ≤ X.deals.length
structure Good0 (X : MW) : Prop where
 mem : 1 ≤ X.mem ∧ X.mem ≤ 1000
 pat : 1 ≤ X.pat ∧ X.pat ≤ 1000
 fl : ∀ n : Int, n = 1 ∨ n = 2 → ((X.fst n).length : Int) = X.mem
 fv : ∀ n : Int, n = 1 ∨ n = 2 → ∀ x ∈ X.fst n, 0 ≤ x ∧ x ≤ 1000000000000
 dn : X.deals.length ≤ 1000
 dl : ∀ d : Int, 1 ≤ d → d ≤ X.deals.length → (X.deal d).Ok X
 rc : ∀ n : Int, n = 0 ∨ n = 1 ∨ n = 2 → ∀ r ∈ (X.lg n).recs, (1 ≤ r.2 ∧ r.2 ≤ X.deals.length) ∧ (n = 0 ∧ r.1 = 4 ∨ n ≠ 0 ∧ 1 ≤ r.1 ∧ r.1 ≤ 3)
 nd : ∀ n : Int, n = 0 ∨ n = 1 ∨ n = 2 → (X.lg n).recs.Nodup
 fu : ∀ n : Int, n = 0 ∨ n = 1 ∨ n = 2 → 0 ≤ (X.lg n).fuse ∧ (X.lg n).fuse ≤ 9223372036854775807
 sf : ∀ n : Int, n = 0 ∨ n = 1 ∨ n = 2 → (X.lg n).safe ≤ (X.lg n).recs.length
 bg : ∀ m ∈ X.bag, MsOk X m
 wt : ∀ d, 0 ≤ (X.kn d).wt ∧ (X.kn d).wt < X.pat
 ks : ∀ d, 0 ≤ (X.kn d).st ∧ (X.kn d).st ≤ 4
structure Good (X : MW) : Prop extends Good0 X where
 asg : ∀ d, (X.kn d).st = 1 → (4, d) ∉ X.c.recs
end Go.Proofs.Ytfbbagnpdfafjaa
set_option maxRecDepth 100000
namespace Go.Proofs.Ytfbbagnpdfafjaa
open Go.RowKit Go.Proofs
theorem ov_buildA0 {P : Program} {N : Nat} {o : Oper} {F : Fr} {w : World} {T E : TypeId} {n s : Nat} {z : Value} (ho : o.op = .build T #[]) (hT : P.underlying T = some (.array n E)) (hz : (P.info? T).map (·.zero) = some (some z)) (hs : (P.info? E).map (·.size) = some s) : OpV P N o F w (.agg z.cells) := by
 intro a ha
 obtain ⟨it, hit, hz0⟩ := Option.map_eq_some_iff.1 hz
 obtain ⟨ie, hie, hse⟩ := Option.map_eq_some_iff.1 hs
 have h1 : (Instr.build T #[]).run P w = .ok (.agg z.cells) w := by
  unfold Instr.build
  simp [zeroValue, typeInfo, hit, hz0, run_underlying hT, sizeOf, hie, Instr.fill, Result.andThen]
 unfold execOp
 rw [ho]
 simp [h1, Result.andThen]
namespace MW
def bothTo (X : MW) (k d : Int) (h1 h2 : Bool) (i : Int) : MW := if i = 1 then X else if i = 2 then (if h1 then X else X.send ⟨0, 1, k, d⟩) else X.both k d h1 h2
theorem send_len (X : MW) (m : Ms) : (X.send m).bag.length = X.bag.length + 1 := by unfold send; simp
theorem both_len (X : MW) (k d : Int) (h1 h2 : Bool) : X.bag.length ≤ (X.both k d h1 h2).bag.length ∧ (X.both k d h1 h2).bag.length ≤ X.bag.length + 2 := by
 unfold both
 dsimp only
 cases h1 <;> cases h2 <;> simp [send_len] <;> omega
theorem bothTo_len (X : MW) (k d : Int) (h1 h2 : Bool) (i : Int) : (X.bothTo k d h1 h2 i).bag.length ≤ X.bag.length + 2 ∧ (i = 1 ∨ i = 2 → (X.bothTo k d h1 h2 i).bag.length ≤ X.bag.length + 1) := by
 unfold bothTo
 have := X.both_len k d h1 h2
 split
 ·exact ⟨by omega, fun _ => by omega⟩
 ·split
  ·cases h1
   ·simp [send_len]
   ·simp
  ·exact ⟨this.2, fun h => by omega⟩
theorem bothTo_hd {X : MW} {k d : Int} {h1 h2 : Bool} {i : Int} (hi : i = 1 ∨ i = 2) (h : (if i = 1 then h1 else h2) = true) : X.bothTo k d h1 h2 (i + 1) = X.bothTo k d h1 h2 i := by
 rcases hi with rfl | rfl
 ·simp at h; simp [bothTo, h]
 ·simp at h; simp [bothTo, both, h]
theorem bothTo_nh {X : MW} {k d : Int} {h1 h2 : Bool} {i : Int} (hi : i = 1 ∨ i = 2) (h : (if i = 1 then h1 else h2) = false) : X.bothTo k d h1 h2 (i + 1) = (X.bothTo k d h1 h2 i).send ⟨0, i, k, d⟩ := by
 rcases hi with rfl | rfl
 ·simp at h; simp [bothTo, h]
 ·simp at h; simp [bothTo, both, h]
end MW
theorem sendBoth_any (A : WA) (X : MW) (k d : Int) (h0 h1 h2 : Bool) (B : Nat) (Pl R : List (Option Blk)) (w0 w : World) (hb : X.bag.length + 2 ≤ 4000000000000) (h : WAt B w0 w A X Pl R) :
  Calls Try.prog 135 #[ptr A.C, iv k, iv d, .agg #[.bool h0, .bool h1, .bool h2]] w fun e w' => e = .returned (.tuple #[]) ∧ WAt B w0 w' A (X.both k d h1 h2) Pl R := by
 obtain ⟨K, N, hO, hK, hPl⟩ := h
 refine calls_of_run (F := [(0, _), (1, _), (2, _), (3, _)]) Try.func135 rfl Try.ntmps135 rfl rfl <| run_seq <| run_region <| rl_ow rfl (ow_box _ rfl rfl rfl rfl rfl hO) ?_
 rintro _ w1 ⟨b7, rfl, hO2, hs3⟩
 refine rl_nil <| run_seq <| run_region <| rl_v rfl rfl rfl (ov_assign rfl rfl) <| rl_nil <| run_block <| Run.keep [0, 1, 2, 7, 8] (F' := [(0, _), (1, _), (2, _), (7, _), (8, _)]) rfl <| run_loop1 (fun (i : Int) => [(8, .int .i64 i)]) [0, 1, 2, 7] (fun (i : Int) (w4 : World) => 1 ≤ i ∧ i ≤ 3 ∧ WAt B w0 w4 A (X.bothTo k d h1 h2 i) Pl (some (lch b7 237 [.bool h0, .bool h1, .bool h2]) :: R)) (fun (i : Int) => (3 - i).toNat) (1) ?_ (And.intro (by exact slot_int rfl (by first | omega)) (And.intro rfl (And.intro rfl (And.intro rfl (And.intro rfl trivial))))) ?_
 ·exact ⟨by omega, by omega, WAt.push hO2 hK hPl⟩
 intro i w4 hIw4 ih5
 obtain ⟨hi0, hi1, hW⟩ := hIw4
 show Run _ _ _ _ [(8, _), (0, _), (1, _), (2, _), (7, _)] _ _
 obtain ⟨K2, N2, hO2, hK2, hPl2⟩ := hW.pull
 refine run_seq <| run_seq <| run_region <| rl_v rfl rfl rfl (ov_move rfl rfl) <| rl_v rfl rfl rfl (ov_leq rfl rfl rfl) <| rl_nil ?_
 first | refine run_cond_dec rfl (fun hi => ?_) (fun hi => ?_) | refine run_cond rfl (fun hi => ?_) (fun hi => ?_)
 ·have hi2 : i = 1 ∨ i = 2 := by omega
  have hln := (X.bothTo_len k d h1 h2 i).2 hi2
  have hcell : w4.cell? ⟨b7, 0 + i.toNat, none⟩ = some (.bool (if i = 1 then h1 else h2)) := by
   rcases hi2 with rfl | rfl
   ·exact hO2.cellL 0 rfl rfl
   ·exact hO2.cellL 0 rfl rfl
  refine run_skip <| run_seq <| run_block <| run_seq <| run_region <| rl_v rfl rfl rfl (ov_move rfl rfl) <| rl_v rfl rfl rfl (ov_indexA1 rfl Try.underlying237 (by kernel_rfl) rfl rfl ⟨by omega, by omega⟩) ?_
  refine rl_v rfl rfl rfl (ov_load rfl Try.underlying4 rfl rfl hcell) ?_
  refine rl_v rfl rfl rfl (ov_not rfl rfl) <| rl_nil ?_
  first | refine run_cond_dec rfl (fun hq => ?_) (fun hq2 => ?_) | refine run_cond rfl (fun hq => ?_) (fun hq2 => ?_)
  ·refine run_region <| rl_v rfl rfl rfl (ov_move rfl rfl) <| rl_v rfl rfl rfl (ov_nil rfl rfl) <| rl_v rfl rfl rfl (ov_fieldS rfl Try.underlying191 rfl (fo := 4) rfl (by kernel_rfl) rfl) ?_
   refine rl_v rfl rfl rfl (ov_load rfl Try.underlying100 rfl rfl (by exact hO2.cellL 2 rfl rfl)) ?_
   refine rl_v rfl rfl rfl (ov_move rfl rfl) <| rl_v rfl rfl rfl (ov_move rfl rfl) <| rl_v rfl rfl rfl (ov_move rfl rfl) <| rl_v rfl rfl rfl (ov_buildL rfl lay_201 rfl (us := [_, _, _, _]) rfl) ?_
   refine rl_call callable_144 rfl rfl rfl rfl rfl rfl (send_any A (X.bothTo k d h1 h2 i) ⟨0, i, k, d⟩ B Pl _ w0 w4 hW (by omega)) (fun e6 w7 hp8 => ?_)
   obtain ⟨rfl, hW3⟩ := hp8
   refine ⟨_, rfl, ?_⟩
   obtain ⟨K3, N3, hO3, hK3, hPl3⟩ := hW3.pull
   refine rl_nil <| run_inBlock <| run_region <| rl_v rfl rfl rfl (ov_move rfl rfl) <| rl_v rfl rfl rfl (ov_add rfl rfl rfl (by omega)) ?_
   refine rl_v rfl rfl rfl (ov_assign rfl rfl) <| rl_nil ?_
   refine Run.use (ih5 (i + 1) _ ?_ ?_) (And.intro (by exact slot_int rfl (by first | omega)) (And.intro rfl (And.intro rfl (And.intro rfl (And.intro rfl trivial)))))
   ·first | omega | (dsimp only; omega)
   ·exact ⟨by omega, by omega, by rw [MW.bothTo_nh hi2 (by simpa using hq)]; exact WAt.push hO3 hK3 hPl3⟩
  ·refine run_skip <| run_inBlock <| run_region <| rl_v rfl rfl rfl (ov_move rfl rfl) <| rl_v rfl rfl rfl (ov_add rfl rfl rfl (by omega)) ?_
   refine rl_v rfl rfl rfl (ov_assign rfl rfl) <| rl_nil ?_
   refine Run.use (ih5 (i + 1) _ ?_ ?_) (And.intro (by exact slot_int rfl (by first | omega)) (And.intro rfl (And.intro rfl (And.intro rfl (And.intro rfl trivial)))))
   ·first | omega | (dsimp only; omega)
   ·exact ⟨by omega, by omega, by rw [MW.bothTo_hd hi2 (by simpa using hq2)]; exact WAt.push hO2 hK2 hPl2⟩
 ·have hi3 : i = 3 := by omega
  subst hi3
  refine run_exit rfl <| run_end Try.func135 (res0 Try.results135) ?_
  exact ⟨rfl, hW.drop⟩
theorem WAt.know {B : Nat} {w0 w : World} {A : WA} {X : MW} {K : WC} {N R Pl : List (Option Blk)} {d : Int} {s : Ds} (hO : Own B w0 w ((K.M A X ++ (N ++ R)).set 4 (some (mch K.mb (mput K.L d (dsv s)))))) (hK : WOk X K N) (hPl : ∀ y ∈ Pl, y ∈ N) : WAt B w0 w A (X.know d s) Pl R :=
 ⟨{ K with L := mput K.L d (dsv s) }, N, hO, { hK with mp := hK.mp.put d s }, hPl⟩
theorem turn_any (A : WA) (X : MW) (d st k : Int) (B : Nat) (Pl R : List (Option Blk)) (w0 w : World) (hb : X.bag.length + 2 ≤ 4000000000000) (h : WAt B w0 w A X Pl R) :
  Calls Try.prog 102 #[ptr A.C, iv d, iv st, iv k] w fun e w' => e = .returned (.tuple #[]) ∧ WAt B w0 w' A (X.turn d st k) Pl R := by
 obtain ⟨K, N, hO, hK, hPl⟩ := h
 refine calls_of_run (F := [(0, _), (1, _), (2, _), (3, _)]) Try.func102 rfl Try.ntmps102 rfl rfl <| run_seq <| run_region <| rl_v rfl rfl rfl (ov_move rfl rfl) <| rl_v rfl rfl rfl (ov_nil rfl rfl) <| rl_v rfl rfl rfl (ov_fieldS rfl Try.underlying191 rfl (fo := 5) rfl (by kernel_rfl) rfl) ?_
 refine rl_v rfl rfl rfl (ov_load rfl Try.underlying186 rfl rfl (by exact hO.cellL 1 rfl rfl)) ?_
 refine rl_v rfl rfl rfl (ov_move rfl rfl) <| rl_v rfl rfl rfl (ov_move rfl rfl) <| rl_v rfl rfl rfl (ov_buildL rfl lay_239 rfl (us := [_, _, _, _, _]) rfl) <| rl_ow rfl (ow_mapput rfl rfl Try.underlying186 Try.underlying3 hO 4 rfl rfl rfl rfl) ?_
 rintro _ w1 ⟨rfl, hO2, hs3⟩
 refine rl_nil <| run_region <| rl_v rfl rfl rfl (ov_move rfl rfl) <| rl_v rfl rfl rfl (ov_move rfl rfl) <| rl_v rfl rfl rfl (ov_move rfl rfl) <| rl_v rfl rfl rfl (ov_buildA0 rfl Try.underlying237 zero_237 (s := 1) (by kernel_rfl)) ?_
 refine rl_call callable_135 rfl rfl rfl rfl rfl rfl (sendBoth_any A (X.know d (Ds.s st)) k d false false false B Pl R w0 w1 hb (WAt.know (s := Ds.s st) hO2 hK hPl)) (fun e4 w5 hp6 => ?_)
 obtain ⟨rfl, hW⟩ := hp6
 refine ⟨_, rfl, ?_⟩
 refine rl_nil <| run_end Try.func102 (res0 Try.results102) ?_
 exact ⟨rfl, hW⟩
namespace MW
end MW
namespace MW
end MW
end Go.Proofs.Ytfbbagnpdfafjaa
set_option maxRecDepth 100000
namespace Go.Proofs.Ytfbbagnpdfafjaa
open Go.RowKit Go.Proofs
theorem WAt.push2 {B : Nat} {w0 w : World} {A : WA} {X : MW} {K : WC} {N R Pl : List (Option Blk)} {x y : Option Blk} (hO : Own B w0 w (x :: y :: (K.M A X ++ (N ++ R)))) (hK : WOk X K N) (hPl : ∀ z ∈ Pl, z ∈ N) : WAt B w0 w A X Pl (x :: y :: R) :=
 ⟨K, N, hO.perm ((List.Perm.cons x (perm_mid2 y _ _ _)).trans (perm_mid2 x _ _ _)), hK, hPl⟩
theorem WAt.pull2 {B : Nat} {w0 w : World} {A : WA} {X : MW} {R Pl : List (Option Blk)} {x y : Option Blk} (h : WAt B w0 w A X Pl (x :: y :: R)) : ∃ K N, Own B w0 w (x :: y :: (K.M A X ++ (N ++ R))) ∧ WOk X K N ∧ ∀ z ∈ Pl, z ∈ N := by
 obtain ⟨K, N, hO, hK, hPl⟩ := h
 exact ⟨K, N, hO.perm ((List.Perm.cons x (perm_mid2 y _ _ _)).trans (perm_mid2 x _ _ _)).symm, hK, hPl⟩
namespace MW
theorem both_same (X : MW) (k d : Int) (h1 h2 : Bool) : (X.both k d h1 h2).lg = X.lg ∧ (X.both k d h1 h2).deals = X.deals ∧ (X.both k d h1 h2).pat = X.pat ∧ (X.both k d h1 h2).kn = X.kn := by
 unfold both send; cases h1 <;> cases h2 <;> exact ⟨rfl, rfl, rfl, rfl⟩
theorem turn_same (X : MW) (d st k : Int) : (X.turn d st k).lg = X.lg ∧ (X.turn d st k).deals = X.deals ∧ (X.turn d st k).pat = X.pat ∧ (X.turn d st k).kn = upd X.kn d (Ds.s st) := both_same (X.know d (Ds.s st)) k d false false
end MW
def fStore (n : Int) : Nat := if n = 0 then 174 else 180
theorem cStore (n : Int) : Callable Try.prog (fStore n) := by unfold fStore; split; exact callable_174; exact callable_180
theorem mStore (n : Int) (v : Value) (w : World) : (method (Try.prog.types.size + Made.depth) (nty n) v "oast/settle.store").run Try.prog w = .ok (fStore n, v) w := by
 unfold nty fStore
 split
 ·exact meth_ptr (by kernel_rfl) Try.underlying185
 ·exact meth_ptr (by kernel_rfl) Try.underlying192
theorem coStore_any (b : Nat) (w : World) : Calls Try.prog 174 #[ptr b] w fun e w' => e = .returned (ptr b) ∧ w' = w := by
 refine calls_of_run (F := [(0, _)]) Try.func174 rfl Try.ntmps174 rfl rfl ?_
 have hO0 := Own.init w
 refine run_seq <| run_region <| rl_v rfl rfl rfl (ov_assign rfl rfl) <| rl_nil <| run_seq <| run_region <| rl_v rfl rfl rfl (ov_move rfl rfl) <| rl_v rfl rfl rfl (ov_nil rfl rfl) <| rl_v rfl rfl rfl (ov_fieldS rfl Try.underlying191 rfl (fo := 0) rfl (by kernel_rfl) rfl) ?_
 refine rl_v rfl rfl rfl (ov_assign rfl rfl) <| rl_nil <| run_ret Try.func174 (res1 Try.results174 rfl) ?_
 exact ⟨rfl, rfl⟩
theorem siteStore_any (b : Nat) (w : World) : Calls Try.prog 180 #[ptr b] w fun e w' => e = .returned (ptr b) ∧ w' = w := by
 refine calls_of_run (F := [(0, _)]) Try.func180 rfl Try.ntmps180 rfl rfl ?_
 have hO0 := Own.init w
 refine run_seq <| run_region <| rl_v rfl rfl rfl (ov_assign rfl rfl) <| rl_nil <| run_seq <| run_region <| rl_v rfl rfl rfl (ov_move rfl rfl) <| rl_v rfl rfl rfl (ov_nil rfl rfl) <| rl_v rfl rfl rfl (ov_fieldS rfl Try.underlying194 rfl (fo := 0) rfl (by kernel_rfl) rfl) ?_
 refine rl_v rfl rfl rfl (ov_assign rfl rfl) <| rl_nil <| run_ret Try.func180 (res1 Try.results180 rfl) ?_
 exact ⟨rfl, rfl⟩
theorem store_any (n : Int) (b : Nat) (w : World) : Calls Try.prog (fStore n) #[ptr b] w fun e w' => e = .returned (ptr b) ∧ w' = w := by
 unfold fStore
 split
 ·exact coStore_any b w
 ·exact siteStore_any b w
end Go.Proofs.Ytfbbagnpdfafjaa
