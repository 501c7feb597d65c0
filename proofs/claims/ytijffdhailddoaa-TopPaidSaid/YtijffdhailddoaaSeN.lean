import Derived.Test.YtijffdhailddoaaSeI
set_option maxRecDepth 100000
namespace Go.Proofs.Ytijffdhailddoaa
open Go.RowKit Go.Proofs
theorem run1_idle (p : Value) (w : World) :
  CallsD Try.prog 54 #[p] .returning w fun e u' w' => e = .returned (.tuple #[]) ∧ u' = .returning ∧ w' = w := by
 refine callsD_of_wpS Try.func54 rfl fun c₀ cs hu => ?_
 apply wpS_seq
 apply wpS_region
 simp [wpOpsS, go_sem, recoverD, hu, Try.ntmps54, Exit.thenS]
 apply wpS_seq
 apply wpS_region
 simp [wpOpsS, go_sem, Exit.thenS]
 refine wpS_cond (t := false) (by simp [Act.eval, Array.replicate]) ?_
 simp only [Bool.false_eq_true, if_false]
 refine wpS_of_wp (wp_skip ?_)
 cases c₀
 simp_all [bodyPostS, results, Try.results54]
theorem run1_burnt (A : WA) (n : Int) (b : Nat) (w : World) (Post : World → Prop) (hc : w.cell? ⟨b, 0, none⟩ = some (nodeV A n)) (hs : Calls Try.prog (fStart n) #[ptr (A.node n)] w fun e w' => e = .returned (.tuple #[]) ∧ Post w') :
  CallsD Try.prog 54 #[ptr b] (.panicking burnt) w fun e u' w' => e = .returned (.tuple #[]) ∧ settle u' = .returning ∧ Post w' := by
 refine callsD_of_wpS Try.func54 rfl fun c₀ cs hu => ?_
 apply wpS_seq
 apply wpS_region
 simp [wpOpsS, go_sem, recoverD, hu, burnt, Try.ntmps54, Exit.thenS]
 apply wpS_seq
 apply wpS_region
 simp [wpOpsS, go_sem, Exit.thenS]
 refine wpS_cond (t := true) (by simp [Act.eval, Array.replicate]) ?_
 simp only [if_true]
 refine wpS_of_wp ?_
 have hb : ∀ w : World, (Instr.build 147 #[]).run Try.prog w = .ok (.agg #[]) w := fun _ => by kernel_rfl
 have hi : ∀ w : World, (Instr.makeInterface 147 (.agg #[])).run Try.prog w = .ok (.iface 147 (.agg #[])) w := fun _ => by kernel_rfl
 have hg : ∀ w : World, (eqGuard .neq 20 (.tmp 5) (.tmp 7) (.iface 147 (.agg #[])) (.iface 147 (.agg #[]))).run Try.prog w = .ok () w := fun _ => by kernel_rfl
 have hn : ∀ w : World, (binOp .neq 20 (.iface 147 (.agg #[])) (.iface 147 (.agg #[]))).run Try.prog w = .ok (.bool false) w := fun _ => by kernel_rfl
 have hc' : w.cell? ⟨b, 0, none⟩ = some (.iface (nty n) (ptr (A.node n))) := hc
 have hm := mStart n
 have hcf := run_callFunc (cStart n)
 clear hc
 go_wp2
 have hm' : ∀ v w, Sem.run Try.prog (method 270 (nty n) v "oast/settle.start") w = .ok (fStart n, v) w := mStart n
 rename_i K hK
 rw [hm']
 simp only [Result.andThen]
 rw [hcf]
 simp only [Oper.upon_enter]
 refine hs.mono fun e w' hp => ?_
 obtain ⟨rfl, hp⟩ := hp
 go_wp2
 exact ⟨rfl, _, rfl, .tuple #[], by simp [results, Try.results54], rfl, rfl, hp⟩
abbrev nbox (A : WA) (n : Int) (b : Nat) : Blk := lch b 69 [nodeV A n]
theorem boxed {A : WA} {X : MW} {B : Nat} {Pl R : List (Option Blk)} {w0 w : World} (n : Int) (h : WAt B w0 w A X Pl R) : WAt B w0 (w.alloc (.cells #[.iface (nty n) (ptr (A.node n))] 69)) A X Pl (some (nbox A n w.heap.size) :: R) := by
 obtain ⟨K, N, hO, hK, hPl⟩ := h
 refine WAt.push (hO.alloc #[nodeV A n] 69 1 (nbox A n w.heap.size).f rfl fun i hi => ?_) hK hPl
 obtain rfl : i = 0 := by omega
 rfl
theorem unbox {A : WA} {X : MW} {B : Nat} {Pl R : List (Option Blk)} {w0 w : World} {n : Int} {b : Nat} (h : WAt B w0 w A X Pl (some (nbox A n b) :: R)) : w.cell? ⟨b, 0, none⟩ = some (nodeV A n) := by
 obtain ⟨K, N, hO, hK, hPl⟩ := h.pull
 exact hO.cellL 0 rfl (off := 0) rfl
theorem leave_idle (A : WA) (Z : MW) (n : Int) (b B : Nat) (Pl R : List (Option Blk)) (w0 w : World) (tmps : Array Value) (h : WAt B w0 w A Z Pl (some (nbox A n b) :: R)) :
  Leaves Try.prog Try.f42 tmps (fun e w' => e = .returned (.tuple #[]) ∧ WAt B w0 w' A Z Pl R) [{ target := .fn (.func 54) #[ptr b], args := #[] }] .returning w := by
 refine leaves_cons (f := 54) (args := #[ptr b]) (by simp) (by simp [go_sem]) ?_
 refine (run1_idle _ w).mono ?_
 rintro e u' w'' ⟨rfl, rfl, rfl⟩
 exact ⟨.tuple #[], by simp [results, Try.results42], rfl, h.drop⟩
theorem run_take (g : Nat) (s : Bool) (A : WA) (X Y Z : MW) (n : Int) (B : Nat) (Pl R : List (Option Blk)) (cap : Array Value) (w0 w : World)
  (h : WAt B w0 w A X Pl R)
  (hf : ∀ (w : World) (box : Option Blk), WAt B w0 w A X Pl (box :: R) → Calls Try.prog g cap w fun e w' => Burns s e (WAt B w0 w' A Y Pl (box :: R)))
  (hs : ∀ (w : World) (box : Option Blk), s = false → WAt B w0 w A Y Pl (box :: R) → Calls Try.prog (fStart n) #[ptr (A.node n)] w fun e w' => e = .returned (.tuple #[]) ∧ WAt B w0 w' A Z Pl (box :: R)) 
  (hz : s = true → Z = Y) (hcf : ∀ (args : Array Value) (w : World), (callFunc g args).run Try.prog w = .ok (.enter g args) w) :
  Calls Try.prog 42 #[ptr A.W, nodeV A n, .func (.func g) #[] cap] w fun e w' => e = .returned (.tuple #[]) ∧ WAt B w0 w' A Z Pl R := by
 have hmf : ∀ (fn : Fn) (first cap : Array Value) (w : World), (Instr.makeFunc fn first cap).run Try.prog w = .ok (.func fn first cap) w := fun _ _ _ _ => rfl
 show Calls Try.prog 42 #[ptr A.W, .iface (nty n) (ptr (A.node n)), _] _ _
 go_enter_defers Try.func42, Try.ntmps42
 go_wp2
 rename_i K hK
 have hW := boxed n h
 refine (hf _ _ hW).mono fun e w' hp => ?_
 rcases hp with ⟨rfl, hs1, hp⟩ | ⟨rfl, hs1, hp⟩
 ·dsimp only
  apply hK
  go_wp2
  exact leave_idle A Z n _ B Pl R w0 w' _ (by rw [hz hs1]; exact hp)
 ·dsimp only
  show Leaves Try.prog _ _ _ _ (.panicking burnt) w'
  refine leaves_cons (f := 54) (args := #[ptr w.heap.size]) (by simp [burnt]) (by simp [go_sem]) ?_
  refine (run1_burnt A n _ w' (fun w'' => WAt B w0 w'' A Z Pl (some (nbox A n w.heap.size) :: R)) (unbox hp) (hs _ _ hs1 hp)).mono ?_
  rintro e u' w'' ⟨rfl, hu, hp⟩
  simp only [hu]
  exact ⟨.tuple #[], by simp [results, Try.results42], rfl, hp.drop⟩
theorem run_tick (A : WA) (X Y : MW) (n : Int) (B : Nat) (Pl R : List (Option Blk)) (w0 w : World)
  (h : WAt B w0 w A X Pl R)
  (hf : ∀ (w : World) (box : Option Blk), WAt B w0 w A X Pl (box :: R) → Calls Try.prog (fTick n) #[ptr (A.node n)] w fun e w' => e = .returned (.tuple #[]) ∧ WAt B w0 w' A Y Pl (box :: R)) :
  Calls Try.prog 42 #[ptr A.W, nodeV A n, .func (.method "oast/settle.tick") #[nodeV A n] #[]] w fun e w' => e = .returned (.tuple #[]) ∧ WAt B w0 w' A Y Pl R := by
 have hmf : ∀ (fn : Fn) (first cap : Array Value) (w : World), (Instr.makeFunc fn first cap).run Try.prog w = .ok (.func fn first cap) w := fun _ _ _ _ => rfl
 have hcf := run_callFunc (cTick n)
 have hm' : ∀ v w, Sem.run Try.prog (method 270 (nty n) v "oast/settle.tick") w = .ok (fTick n, v) w := mTick n
 show Calls Try.prog 42 #[ptr A.W, .iface (nty n) (ptr (A.node n)), .func (.method "oast/settle.tick") #[.iface (nty n) (ptr (A.node n))] #[]] _ _
 go_enter_defers Try.func42, Try.ntmps42
 go_wp2
 rename_i K hK
 have hW := boxed n h
 refine (hf _ _ hW).mono fun e w' hp => ?_
 obtain ⟨rfl, hp⟩ := hp
 dsimp only
 apply hK
 go_wp2
 exact leave_idle A Y n _ B Pl R w0 w' _ hp
end Go.Proofs.Ytijffdhailddoaa
