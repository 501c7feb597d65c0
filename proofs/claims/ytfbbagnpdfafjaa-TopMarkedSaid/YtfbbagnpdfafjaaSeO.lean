import Derived.Test.YtfbbagnpdfafjaaSeI
set_option maxRecDepth 100000
namespace Go.Proofs.Ytfbbagnpdfafjaa
open Go.RowKit Go.Proofs
theorem run1_idle (p : Value) (w : World) :
  CallsD Try.prog 145 #[p] .returning w fun e u' w' => e = .returned (.tuple #[]) ∧ u' = .returning ∧ w' = w := by
 refine callsD_of_wpS Try.func145 rfl fun c₀ cs hu => ?_
 apply wpS_seq
 apply wpS_region
 simp [wpOpsS, go_sem, recoverD, hu, Try.ntmps145, Exit.thenS]
 apply wpS_seq
 apply wpS_region
 simp [wpOpsS, go_sem, Exit.thenS]
 refine wpS_cond (t := false) (by simp [Act.eval, Array.replicate]) ?_
 simp only [Bool.false_eq_true, if_false]
 refine wpS_of_wp (wp_skip ?_)
 cases c₀
 simp_all [bodyPostS, results, Try.results145]
theorem run1_burnt (A : WA) (n : Int) (b : Nat) (w : World) (Post : World → Prop) (hc : w.cell? ⟨b, 0, none⟩ = some (nodeV A n)) (hs : Calls Try.prog (fStart n) #[ptr (A.node n)] w fun e w' => e = .returned (.tuple #[]) ∧ Post w') :
  CallsD Try.prog 145 #[ptr b] (.panicking burnt) w fun e u' w' => e = .returned (.tuple #[]) ∧ settle u' = .returning ∧ Post w' := by
 refine callsD_of_wpS Try.func145 rfl fun c₀ cs hu => ?_
 apply wpS_seq
 apply wpS_region
 simp [wpOpsS, go_sem, recoverD, hu, burnt, Try.ntmps145, Exit.thenS]
 apply wpS_seq
 apply wpS_region
 simp [wpOpsS, go_sem, Exit.thenS]
 refine wpS_cond (t := true) (by simp [Act.eval, Array.replicate]) ?_
 simp only [if_true]
 refine wpS_of_wp ?_
 have hb : ∀ w : World, (Instr.build 257 #[]).run Try.prog w = .ok (.agg #[]) w := fun _ => by kernel_rfl
 have hi : ∀ w : World, (Instr.makeInterface 257 (.agg #[])).run Try.prog w = .ok (.iface 257 (.agg #[])) w := fun _ => by kernel_rfl
 have hg : ∀ w : World, (eqGuard .neq 20 (.tmp 5) (.tmp 7) (.iface 257 (.agg #[])) (.iface 257 (.agg #[]))).run Try.prog w = .ok () w := fun _ => by kernel_rfl
 have hn : ∀ w : World, (binOp .neq 20 (.iface 257 (.agg #[])) (.iface 257 (.agg #[]))).run Try.prog w = .ok (.bool false) w := fun _ => by kernel_rfl
 have hc' : w.cell? ⟨b, 0, none⟩ = some (.iface (nty n) (ptr (A.node n))) := hc
 have hm := mStart n
 have hcf := run_callFunc (cStart n)
 clear hc
 go_wp2
 have hm' : ∀ v w, Sem.run Try.prog (method 382 (nty n) v "oast/settle.start") w = .ok (fStart n, v) w := mStart n
 rename_i K hK
 rw [hm']
 simp only [Result.andThen]
 rw [hcf]
 simp only [Oper.upon_enter]
 refine hs.mono fun e w' hp => ?_
 obtain ⟨rfl, hp⟩ := hp
 go_wp2
 exact ⟨rfl, _, rfl, .tuple #[], by simp [results, Try.results145], rfl, rfl, hp⟩
abbrev nbox (A : WA) (n : Int) (b : Nat) : Blk := lch b 180 [nodeV A n]
theorem boxed {A : WA} {X : MW} {B : Nat} {Pl R : List (Option Blk)} {w0 w : World} (n : Int) (h : WAt B w0 w A X Pl R) : WAt B w0 (w.alloc (.cells #[.iface (nty n) (ptr (A.node n))] 180)) A X Pl (some (nbox A n w.heap.size) :: R) := by
 obtain ⟨K, N, hO, hK, hPl⟩ := h
 refine WAt.push (hO.alloc #[nodeV A n] 180 1 (nbox A n w.heap.size).f rfl fun i hi => ?_) hK hPl
 obtain rfl : i = 0 := by omega
 rfl
theorem unbox {A : WA} {X : MW} {B : Nat} {Pl R : List (Option Blk)} {w0 w : World} {n : Int} {b : Nat} (h : WAt B w0 w A X Pl (some (nbox A n b) :: R)) : w.cell? ⟨b, 0, none⟩ = some (nodeV A n) := by
 obtain ⟨K, N, hO, hK, hPl⟩ := h.pull
 exact hO.cellL 0 rfl (off := 0) rfl
theorem leave_idle (A : WA) (Z : MW) (n : Int) (b B : Nat) (Pl R : List (Option Blk)) (w0 w : World) (tmps : Array Value) (h : WAt B w0 w A Z Pl (some (nbox A n b) :: R)) :
  Leaves Try.prog Try.f136 tmps (fun e w' => e = .returned (.tuple #[]) ∧ WAt B w0 w' A Z Pl R) [{ target := .fn (.func 145) #[ptr b], args := #[] }] .returning w := by
 refine leaves_cons (f := 145) (args := #[ptr b]) (by simp) (by simp [go_sem]) ?_
 refine (run1_idle _ w).mono ?_
 rintro e u' w'' ⟨rfl, rfl, rfl⟩
 exact ⟨.tuple #[], by simp [results, Try.results136], rfl, h.drop⟩
theorem run_take (g : Nat) (s : Bool) (A : WA) (X Y Z : MW) (n : Int) (B : Nat) (Pl R : List (Option Blk)) (cap : Array Value) (w0 w : World)
  (h : WAt B w0 w A X Pl R)
  (hf : ∀ (w : World) (box : Option Blk), WAt B w0 w A X Pl (box :: R) → Calls Try.prog g cap w fun e w' => Burns s e (WAt B w0 w' A Y Pl (box :: R)))
  (hs : ∀ (w : World) (box : Option Blk), s = false → WAt B w0 w A Y Pl (box :: R) → Calls Try.prog (fStart n) #[ptr (A.node n)] w fun e w' => e = .returned (.tuple #[]) ∧ WAt B w0 w' A Z Pl (box :: R)) 
  (hz : s = true → Z = Y) (hcf : ∀ (args : Array Value) (w : World), (callFunc g args).run Try.prog w = .ok (.enter g args) w) :
  Calls Try.prog 136 #[ptr A.W, nodeV A n, .func (.func g) #[] cap] w fun e w' => e = .returned (.tuple #[]) ∧ WAt B w0 w' A Z Pl R := by
 have hmf : ∀ (fn : Fn) (first cap : Array Value) (w : World), (Instr.makeFunc fn first cap).run Try.prog w = .ok (.func fn first cap) w := fun _ _ _ _ => rfl
 show Calls Try.prog 136 #[ptr A.W, .iface (nty n) (ptr (A.node n)), _] _ _
 go_enter_defers Try.func136, Try.ntmps136
 go_wp2
 rename_i K hK
 have hW := boxed n h
 refine (hf _ _ hW).mono fun e w' hp => ?_
 rcases hp with ⟨rfl, hs1, hp⟩ | ⟨rfl, hs1, hp⟩
 ·dsimp only
  apply hK
  go_wp2
  exact leave_idle A Z n _ B Pl R w0 w' _ (by rw [hz hs1]; exact hp)
 ·dsimp only
  show Leaves Try.prog _ _ _ _ (.panicking burnt) w'
  refine leaves_cons (f := 145) (args := #[ptr w.heap.size]) (by simp [burnt]) (by simp [go_sem]) ?_
  refine (run1_burnt A n _ w' (fun w'' => WAt B w0 w'' A Z Pl (some (nbox A n w.heap.size) :: R)) (unbox hp) (hs _ _ hs1 hp)).mono ?_
  rintro e u' w'' ⟨rfl, hu, hp⟩
  simp only [hu]
  exact ⟨.tuple #[], by simp [results, Try.results136], rfl, hp.drop⟩
theorem run_tick (A : WA) (X Y : MW) (n : Int) (B : Nat) (Pl R : List (Option Blk)) (w0 w : World)
  (h : WAt B w0 w A X Pl R)
  (hf : ∀ (w : World) (box : Option Blk), WAt B w0 w A X Pl (box :: R) → Calls Try.prog (fTick n) #[ptr (A.node n)] w fun e w' => e = .returned (.tuple #[]) ∧ WAt B w0 w' A Y Pl (box :: R)) :
  Calls Try.prog 136 #[ptr A.W, nodeV A n, .func (.method "oast/settle.tick") #[nodeV A n] #[]] w fun e w' => e = .returned (.tuple #[]) ∧ WAt B w0 w' A Y Pl R := by
 have hmf : ∀ (fn : Fn) (first cap : Array Value) (w : World), (Instr.makeFunc fn first cap).run Try.prog w = .ok (.func fn first cap) w := fun _ _ _ _ => rfl
 have hcf := run_callFunc (cTick n)
 have hm' : ∀ v w, Sem.run Try.prog (method 382 (nty n) v "oast/settle.tick") w = .ok (fTick n, v) w := mTick n
 show Calls Try.prog 136 #[ptr A.W, .iface (nty n) (ptr (A.node n)), .func (.method "oast/settle.tick") #[.iface (nty n) (ptr (A.node n))] #[]] _ _
 go_enter_defers Try.func136, Try.ntmps136
 go_wp2
 rename_i K hK
 have hW := boxed n h
 refine (hf _ _ hW).mono fun e w' hp => ?_
 obtain ⟨rfl, hp⟩ := hp
 dsimp only
 apply hK
 go_wp2
 exact leave_idle A Y n _ B Pl R w0 w' _ hp
end Go.Proofs.Ytfbbagnpdfafjaa
set_option maxRecDepth 100000
namespace Go.Proofs.Ytfbbagnpdfafjaa
open Go.RowKit Go.Proofs
section
variable {P : Program} {f N : Nat} {o : Oper} {ops : Array Oper} {rest : List Oper} {k : List Item} {F : Fr} {w : World} {R : Ending → World → Prop}
end
theorem nodeCell {A : WA} {X : MW} {K : WC} {B j : Nat} {w0 w : World} {H : List (Option Blk)} {n : Int} {q : Nat} (hO : Own B w0 w H) (hw : H[j]? = some (some (lch A.W 184 (wcells A X K)))) (hn : n = 0 ∨ n = 1 ∨ n = 2) (hq : q = 5 + n.toNat) : w.cell? ⟨A.W, q, none⟩ = some (nodeV A n) := by
 subst hq
 rcases hn with rfl | rfl | rfl
 ·exact hO.cellL j hw (off := 5) rfl
 ·exact hO.cellL j hw (off := 6) rfl
 ·exact hO.cellL j hw (off := 7) rfl
theorem node_any (A : WA) (X : MW) (K : WC) (n : Int) (j B : Nat) (H : List (Option Blk)) (w0 w : World) (hn : n = 0 ∨ n = 1 ∨ n = 2) (hO : Own B w0 w H) (hw : H[j]? = some (some (lch A.W 184 (wcells A X K)))) :
  Calls Try.prog 134 #[ptr A.W, iv n] w fun e w' => e = .returned (.tuple #[nodeV A n, iv 0]) ∧ Own B w0 w' H := by
 refine calls_of_run (F := [(0, _), (1, _)]) Try.func134 rfl Try.ntmps134 rfl rfl <| run_seq <| run_region <| rl_v rfl rfl rfl (ov_assign rfl rfl) <| rl_v rfl rfl rfl (ov_assign rfl rfl) <| rl_nil <| run_seq <| run_seq <| run_region <| rl_v rfl rfl rfl (ov_move rfl rfl) <| rl_v rfl rfl rfl (ov_ptrnil rfl Try.underlying100 rfl) <| rl_nil <| run_cond_f rfl <| run_skip <| run_seq <| run_seq <| run_region <| rl_v rfl rfl rfl (ov_move rfl rfl) <| rl_v rfl rfl rfl (ov_lss rfl rfl rfl) <| rl_v rfl rfl rfl (ov_move rfl rfl) ?_
 first | refine rl_split_dec 10 rfl (fun g1 => ?_) (fun g1 => ?_) | refine rl_split 10 rfl (fun g1 => ?_) (fun g1 => ?_)
 ·refine rl_gskip rfl rfl rfl rfl rfl rfl <| rl_gskip rfl rfl rfl rfl rfl rfl <| rl_v rfl rfl rfl (ov_pick_t rfl rfl rfl) <| rl_nil ?_
  exfalso; omega
 ·refine rl_gv rfl rfl rfl rfl rfl (ov_move rfl rfl) <| rl_gv rfl rfl rfl rfl rfl (ov_gtr rfl rfl rfl) <| rl_v rfl rfl rfl (ov_pick_f rfl rfl rfl) <| rl_nil ?_
  first | refine run_cond_dec rfl (fun g2 => ?_) (fun g2n => ?_) | refine run_cond rfl (fun g2 => ?_) (fun g2n => ?_)
  ·exfalso; omega
  ·refine run_skip <| run_seq <| run_region <| rl_v rfl rfl rfl (ov_move rfl rfl) <| rl_v rfl rfl rfl (ov_move rfl rfl) <| rl_v rfl rfl rfl (ov_nil rfl rfl) <| rl_v rfl rfl rfl (ov_fieldS rfl Try.underlying184 rfl (fo := 5) rfl (by kernel_rfl) rfl) ?_
   refine rl_v rfl rfl rfl (ov_indexA1 rfl Try.underlying181 (by kernel_rfl) rfl rfl ⟨by omega, by omega⟩) ?_
   refine rl_v rfl rfl rfl (ov_load rfl Try.underlying180 rfl rfl (by exact nodeCell hO hw hn (by omega))) ?_
   refine rl_v rfl rfl rfl (ov_assign rfl rfl) <| rl_v rfl rfl rfl (ov_assign rfl rfl) <| rl_nil <| run_ret Try.func134 (res2 Try.results134 rfl rfl) ?_
   exact ⟨rfl, hO⟩
theorem storeO (n : Int) (b : Nat) {B : Nat} {H : List (Option Blk)} {w0 w : World} (hO : Own B w0 w H) : Calls Try.prog (fStore n) #[ptr b] w fun e w' => e = .returned (ptr b) ∧ Own B w0 w' H :=
 (store_any n b w).mono fun _ _ h => ⟨h.1, h.2 ▸ hO⟩
theorem ov_isSite {N : Nat} {o : Oper} {F : Fr} {w : World} {x : Operand} {A : WA} {n : Int} (hn : n = 1 ∨ n = 2) (ho : o.op = .typeAssert x 180 192 true) (hx : Fr.ev F x = some (nodeV A n)) : OpV Try.prog N o F w (.tuple #[ptr (A.node n), .bool true]) := by
 have h := ov_assert2 (P := Try.prog) (N := N) (w := w) (z := .pointer none) ho Try.underlying192 rfl (by kernel_rfl) hx
 have e : nty n = 192 := if_neg (by omega)
 rw [if_pos e, e] at h
 simpa using h
theorem site_any (A : WA) (X : MW) (K : WC) (n : Int) (j B : Nat) (H : List (Option Blk)) (w0 w : World) (hn : n = 1 ∨ n = 2) (hO : Own B w0 w H) (hw : H[j]? = some (some (lch A.W 184 (wcells A X K)))) :
  Calls Try.prog 106 #[ptr A.W, iv n] w fun e w' => e = .returned (.tuple #[ptr (A.node n), iv 0]) ∧ Own B w0 w' H := by
 refine calls_of_run (F := [(0, _), (1, _)]) Try.func106 rfl Try.ntmps106 rfl rfl <| run_seq <| run_region <| rl_v rfl rfl rfl (ov_assign rfl rfl) <| rl_v rfl rfl rfl (ov_assign rfl rfl) <| rl_nil <| run_seq <| run_region <| rl_v rfl rfl rfl (ov_move rfl rfl) <| rl_v rfl rfl rfl (ov_move rfl rfl) ?_
 refine rl_call callable_134 rfl rfl rfl rfl rfl rfl (node_any A X K n j B H w0 w (by omega) hO hw) (fun e1 w2 hp3 => ?_)
 obtain ⟨rfl, hO2⟩ := hp3
 refine ⟨_, rfl, ?_⟩
 refine rl_v rfl rfl rfl (ov_move rfl rfl) <| rl_v rfl rfl rfl (ov_extract rfl rfl (by rfl)) ?_
 refine rl_v rfl rfl rfl (ov_extract rfl rfl (by rfl)) ?_
 refine rl_v rfl rfl rfl (ov_assign rfl rfl) <| rl_v rfl rfl rfl (ov_assign rfl rfl) <| rl_nil <| run_seq <| run_seq <| run_region <| rl_v rfl rfl rfl (ov_move rfl rfl) <| rl_v rfl rfl rfl (ov_neq rfl rfl rfl) <| rl_nil ?_
 first | refine run_cond_dec rfl (fun g1 => ?_) (fun g1n => ?_) | refine run_cond rfl (fun g1 => ?_) (fun g1n => ?_)
 ·exfalso; exact g1 rfl
 ·refine run_skip <| run_seq <| run_region <| rl_v rfl rfl rfl (ov_move rfl rfl) <| rl_v rfl rfl rfl (ov_isSite (A := A) hn rfl (by rfl)) ?_
  refine rl_v rfl rfl rfl (ov_move rfl rfl) <| rl_v rfl rfl rfl (ov_extract rfl rfl (by rfl)) ?_
  refine rl_v rfl rfl rfl (ov_extract rfl rfl (by rfl)) ?_
  refine rl_v rfl rfl rfl (ov_assign rfl rfl) <| rl_v rfl rfl rfl (ov_assign rfl rfl) <| rl_nil <| run_seq <| run_seq <| run_region <| rl_v rfl rfl rfl (ov_move rfl rfl) <| rl_v rfl rfl rfl (ov_not rfl rfl) <| rl_nil ?_
  first | refine run_cond_dec rfl (fun g2 => ?_) (fun g2n => ?_) | refine run_cond rfl (fun g2 => ?_) (fun g2n => ?_)
  ·exfalso; exact Bool.noConfusion g2
  ·refine run_skip <| run_seq <| run_region <| rl_v rfl rfl rfl (ov_move rfl rfl) <| rl_v rfl rfl rfl (ov_assign rfl rfl) <| rl_v rfl rfl rfl (ov_assign rfl rfl) <| rl_nil <| run_ret Try.func106 (res2 Try.results106 rfl rfl) ?_
   exact ⟨rfl, hO2⟩
theorem wup_any (A : WA) (X : MW) (n : Int) (B : Nat) (Pl R : List (Option Blk)) (w0 w : World) (hn : n = 0 ∨ n = 1 ∨ n = 2) (h : WAt B w0 w A X Pl R) :
  Calls Try.prog 101 #[ptr A.W, iv n] w fun e w' => e = .returned (.bool (!(X.lg n).down)) ∧ WAt B w0 w' A X Pl R := by
 obtain ⟨K, N, hO, hK, hPl⟩ := h
 obtain ⟨k, t, rv, rest, hk4, hk, hr, hset, hw2⟩ := hK.node A hn
 refine calls_of_run (F := [(0, _), (1, _)]) Try.func101 rfl Try.ntmps101 rfl rfl <| run_seq <| run_region <| rl_v rfl rfl rfl (ov_assign rfl rfl) <| rl_nil <| run_seq <| run_region <| rl_v rfl rfl rfl (ov_move rfl rfl) <| rl_v rfl rfl rfl (ov_move rfl rfl) ?_
 refine rl_call callable_134 rfl rfl rfl rfl rfl rfl (node_any A X K n 0 B _ w0 w hn hO rfl) (fun e1 w2 hp3 => ?_)
 obtain ⟨rfl, hO2⟩ := hp3
 refine ⟨_, rfl, ?_⟩
 refine rl_v rfl rfl rfl (ov_move rfl rfl) <| rl_v rfl rfl rfl (ov_extract rfl rfl (by rfl)) ?_
 refine rl_v rfl rfl rfl (ov_extract rfl rfl (by rfl)) ?_
 refine rl_v rfl rfl rfl (ov_assign rfl rfl) <| rl_v rfl rfl rfl (ov_assign rfl rfl) <| rl_nil <| run_seq <| run_region <| rl_v rfl rfl rfl (ov_move rfl rfl) <| rl_v rfl rfl rfl (ov_eql rfl rfl rfl) <| rl_v rfl rfl rfl (ov_move rfl rfl) ?_
 first | refine rl_split_dec 15 rfl (fun g1 => ?_) (fun g1 => ?_) | refine rl_split 15 rfl (fun g1 => ?_) (fun g1 => ?_)
 ·refine rl_gv rfl rfl rfl rfl rfl (ov_move rfl rfl) ?_
  refine rl_ginvoke (cStore n) rfl rfl rfl rfl rfl rfl rfl (mStore n _ _) rfl (storeO n (A.node n) hO2) (fun e5 w6 hp7 => ?_)
  obtain ⟨rfl, hO3⟩ := hp7
  refine ⟨_, rfl, ?_⟩
  refine rl_gv rfl rfl rfl rfl rfl (ov_nil rfl rfl) <| rl_gv rfl rfl rfl rfl rfl (ov_fieldS rfl Try.underlying189 rfl (fo := 3) rfl (by kernel_rfl) rfl) ?_
  refine rl_gv rfl rfl rfl rfl rfl (ov_load rfl Try.underlying4 rfl rfl (by exact hO3.cellL k (hk _) (off := 3) rfl)) ?_
  refine rl_gv rfl rfl rfl rfl rfl (ov_not rfl rfl) <| rl_v rfl rfl rfl (ov_pick_t rfl rfl rfl) <| rl_v rfl rfl rfl (ov_assign rfl rfl) <| rl_nil <| run_ret Try.func101 (res1 Try.results101 rfl) ?_
  exact ⟨rfl, K, N, hO3, hK, hPl⟩
 ·exfalso; exact g1 rfl
section
variable {P : Program} {N : Nat} {o : Oper} {F : Fr} {w : World} {B : Nat} {w0 : World} {H : List (Option Blk)}
end
theorem bagRow {X : MW} {K : WC} {N : List (Option Blk)} (hK : WOk X K N) : ∃ ao cap, K.bv = .slice ao X.bag.length cap ∧ X.bag.length ≤ cap ∧ (∃ b, (0 < X.bag.length → ao = some ⟨b, 0, none⟩) ∧ ∀ {B : Nat} {w0 w : World} {H : List (Option Blk)}, Own B w0 w H → K.cb ∈ H → ∀ i : Int, 0 ≤ i → i < X.bag.length → ∀ fo, fo < 4 → w.cell? ⟨b, 0 + i.toNat * 4 + fo, none⟩ = some ((cnt msl Ms.z X.bag i).getD fo undef)) := by
 have hp := PRow.of_row hK.bv (N := [K.cb]) (List.mem_singleton.2 rfl)
 obtain ⟨ao, cap, h1, h2⟩ := hp.val
 rw [h1] at hp
 obtain ⟨b, hb, hr⟩ := hp.open
 exact ⟨ao, cap, h1, h2, b, hb, fun hO hc => hr hO (fun x hx => by rw [List.mem_singleton.1 hx]; exact hc)⟩
end Go.Proofs.Ytfbbagnpdfafjaa
