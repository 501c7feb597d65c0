import Derived.Test.YtbcjfjldmfljgaaGreatMem
import Derived.Deep.Quiet
import Derived.Deep.MidRow
namespace Go.Proofs.YtbcjfjldmfljgaaGreat
open Go.RowKit
theorem nbeq {i k : Nat} (e : ¬ i = k) : Nat.beq i k = false := by
 cases h : Nat.beq i k
 ·rfl
 ·exact absurd (Nat.eq_of_beq_eq_true h) e
abbrev Fr := List (Nat × Value)
def Fr.get : Fr → Nat → Option Value
 | [], _ => none
 | (j, v) :: F, i => bif Nat.beq i j then some v else Fr.get F i
def Fr.ev (F : Fr) : Operand → Option Value
 | .tmp t => Fr.get F t
 | .const v => some v
 | .global g => some (.pointer (some ⟨g, 0, none⟩))
 | .func f => some (.func (.func f) #[] #[])
def Fr.evs (F : Fr) : List Operand → Option (List Value)
 | [] => some []
 | x :: xs => (Fr.ev F x).bind fun v => (Fr.evs F xs).map (v :: ·)
def Fr.keep (F : Fr) : List Nat → Fr
 | [] => []
 | i :: is => match Fr.get F i with
  | some v => (i, v) :: Fr.keep F is
  | none => Fr.keep F is
theorem Fr.keep_get {F : Fr} : ∀ {ks : List Nat} {i : Nat} {v : Value}, Fr.get (Fr.keep F ks) i = some v → Fr.get F i = some v
 | [], i, v, h => by simp [Fr.keep, Fr.get] at h
 | k :: ks, i, v, h => by
  unfold Fr.keep at h
  split at h
  ·rename_i u hu
   unfold Fr.get at h
   by_cases e : i = k
   ·subst e
    simp at h
    rw [← h]; exact hu
   ·have : Nat.beq i k = false := nbeq e
    simp only [this, cond_false] at h
    exact Fr.keep_get h
  ·exact Fr.keep_get h
structure Holds (N : Nat) (F : Fr) (a : Act) : Prop where
 size : a.tmps.size = N
 defs : a.defers = []
 at_ : ∀ i v, Fr.get F i = some v → a.tmps[i]? = some v
theorem Holds.weaken {N : Nat} {F F' : Fr} {a : Act} (h : Holds N F a) (hs : ∀ i v, Fr.get F' i = some v → Fr.get F i = some v) : Holds N F' a :=
 ⟨h.size, h.defs, fun i v hv => h.at_ i v (hs i v hv)⟩
theorem Holds.put {N : Nat} {F : Fr} {a : Act} (h : Holds N F a) {d : Nat} (hd : d < N) (v : Value) : Holds N ((d, v) :: F) (a.put (some d) v) := by
 refine ⟨by simp [Act.put, h.size], h.defs, fun i u hu => ?_⟩
 unfold Fr.get at hu
 simp only [Act.put, Array.getElem?_setIfInBounds]
 by_cases e : i = d
 ·subst e
  simp at hu
  subst hu
  simp [h.size, hd]
 ·have : Nat.beq i d = false := nbeq e
  simp only [this, cond_false] at hu
  rw [if_neg (fun h => e h.symm)]
  exact h.at_ i u hu
theorem Holds.ev {N : Nat} {F : Fr} {a : Act} (h : Holds N F a) {x : Operand} {v : Value} (hx : Fr.ev F x = some v) : a.eval x = v := by
 cases x with
 | tmp t =>
  have := h.at_ t v hx
  simp [Act.eval, Array.getD_eq_getD_getElem?, this]
 | const u => simpa [Fr.ev, Act.eval] using hx
 | global g => simpa [Fr.ev, Act.eval] using hx
 | func f => simpa [Fr.ev, Act.eval] using hx
theorem Holds.evs {N : Nat} {F : Fr} {a : Act} (h : Holds N F a) : ∀ {xs : List Operand} {vs : List Value}, Fr.evs F xs = some vs → xs.map a.eval = vs
 | [], vs, hx => by simpa [Fr.evs] using hx
 | x :: xs, vs, hx => by
  simp only [Fr.evs, Option.bind_eq_some_iff, Option.map_eq_some_iff] at hx
  obtain ⟨v, hv, us, hus, rfl⟩ := hx
  simp [h.ev hv, h.evs hus]
section
variable {P : Program} {f N : Nat} {k : List Item} {F : Fr} {w : World} {R : Ending → World → Prop} {a : Act}
def base (f : Nat) : Frame := { (default : Frame) with fn := f, kind := .normal }
def RunA (P : Program) (f : Nat) (todo : List Item) (a : Act) (w : World) (R : Ending → World → Prop) : Prop :=
 ∀ cs, ∃ e w' fr, R e w' ∧ Comes P (lone ((base f).at a todo) cs w) (lone fr cs w') e ∧ fr.fn = f ∧ fr.leaving P w' e
def Run (P : Program) (f N : Nat) (todo : List Item) (F : Fr) (w : World) (R : Ending → World → Prop) : Prop :=
 ∀ a, Holds N F a → RunA P f todo a w R
theorem RunA.of_step {todo todo' : List Item} {a' : Act} {w' : World} (hs : ∀ cs, Steps P (lone ((base f).at a todo) cs w) (lone ((base f).at a' todo') cs w')) (h : RunA P f todo' a' w' R) : RunA P f todo a w R := by
 intro cs
 obtain ⟨e, w'', fr, h1, h2, h3, h4⟩ := h cs
 exact ⟨e, w'', fr, h1, Comes.of_steps (hs cs) h2, h3, h4⟩
theorem Run.weaken {F' : Fr} (h : Run P f N k F' w R) (hs : ∀ i v, Fr.get F' i = some v → Fr.get F i = some v) : Run P f N k F w R :=
 fun a ha => h a (ha.weaken hs)
theorem Run.keep (ks : List Nat) {F' : Fr} (hF : Fr.keep F ks = F') (h : Run P f N k F' w R) : Run P f N k F w R :=
 h.weaken (fun _ _ hv => Fr.keep_get (by rw [hF]; exact hv))
theorem calls_of_run {fn : Func} {c : Code} {args : List Value} {F : Fr} (hf : P.funcs[f]? = some fn) (hb : fn.body = some c) (hN : fn.ntmps = N)
  (hF : F = (List.range args.length).zip args) (hl : Nat.ble args.length N = true) (h : Run P f N [.code c] F w R) : Calls P f args.toArray w R := by
 intro cs
 have henter : Frame.enter P f args.toArray .normal = (base f).at { tmps := args.toArray ++ Array.replicate (fn.ntmps - args.toArray.size) undef, defers := [] } [.code c] := by
  simp [Frame.enter, Frame.at, hf, hb, base]
 rw [henter]
 have hl' : args.length ≤ N := Nat.le_of_ble_eq_true hl
 refine h _ ⟨by simp [hN]; omega, rfl, ?_⟩ cs
 intro i v hv
 have key : ∀ (l : List Value) (s : Nat), Fr.get ((List.range' s l.length).zip l) i = some v → s ≤ i ∧ l[i - s]? = some v := by
  intro l
  induction l with
  | nil => intro s h; simp [Fr.get] at h
  | cons u l ih =>
   intro s h
   simp only [List.length_cons, List.range'_succ, List.zip_cons_cons] at h
   unfold Fr.get at h
   by_cases e : i = s
   ·subst e
    simp at h
    simp [h]
   ·have : Nat.beq i s = false := nbeq e
    simp only [this, cond_false] at h
    obtain ⟨h1, h2⟩ := ih (s + 1) h
    refine ⟨by omega, ?_⟩
    rw [show i - s = (i - (s + 1)) + 1 by omega]
    simpa using h2
 rw [hF, List.range_eq_range'] at hv
 obtain ⟨_, h2⟩ := key args 0 hv
 simp only [Nat.sub_zero] at h2
 have hlt : i < args.length := (List.getElem?_eq_some_iff.1 h2).1
 simp only [Array.getElem?_append, List.size_toArray, hlt, if_true, List.getElem?_toArray, h2]
theorem run_seq {x y : Code} (h : Run P f N (.code x :: .code y :: k) F w R) : Run P f N (.code (.seq x y) :: k) F w R :=
 fun a ha => RunA.of_step (fun _ => .one step_seq) (h a ha)
theorem run_skip (h : Run P f N k F w R) : Run P f N (.code .skip :: k) F w R :=
 fun a ha => RunA.of_step (fun _ => .one step_skip) (h a ha)
theorem run_block {id : Nat} {c : Code} (h : Run P f N (.code c :: .inBlock id :: k) F w R) : Run P f N (.code (.block id c) :: k) F w R :=
 fun a ha => RunA.of_step (fun _ => .one step_block) (h a ha)
theorem run_inBlock {id : Nat} (h : Run P f N k F w R) : Run P f N (.inBlock id :: k) F w R :=
 fun a ha => RunA.of_step (fun _ => .one step_inBlock) (h a ha)
theorem run_exit {id : Nat} {k' : List Item} (hk : exitTo id k = some k') (h : Run P f N k' F w R) : Run P f N (.code (.exit id) :: k) F w R :=
 fun a ha => RunA.of_step (fun _ => .one (step_exit hk)) (h a ha)
theorem run_label {l : Nat} (h : Run P f N k F w R) : Run P f N (.code (.label l) :: k) F w R :=
 fun a ha => RunA.of_step (fun _ => .one step_label) (h a ha)
theorem run_cond {c : Operand} {x y : Code} {t : Bool} (hc : Fr.ev F c = some (.bool t)) (ht : t = true → Run P f N (.code x :: k) F w R) (hf : t = false → Run P f N (.code y :: k) F w R) :
  Run P f N (.code (.cond c x y) :: k) F w R := by
 intro a ha
 refine RunA.of_step (fun _ => .one (step_cond (ha.ev hc))) ?_
 cases t
 ·exact hf rfl a ha
 ·exact ht rfl a ha
theorem run_cond_dec {c : Operand} {x y : Code} {p : Prop} {d : Decidable p} (hc : Fr.ev F c = some (.bool (decide p))) (ht : p → Run P f N (.code x :: k) F w R) (hf : ¬ p → Run P f N (.code y :: k) F w R) :
  Run P f N (.code (.cond c x y) :: k) F w R :=
 run_cond hc (fun h => ht (of_decide_eq_true h)) (fun h => hf (of_decide_eq_false h))
theorem run_cond_t {c : Operand} {x y : Code} (hc : Fr.ev F c = some (.bool true)) (h : Run P f N (.code x :: k) F w R) : Run P f N (.code (.cond c x y) :: k) F w R :=
 run_cond hc (fun _ => h) (fun h => by cases h)
theorem run_cond_f {c : Operand} {x y : Code} (hc : Fr.ev F c = some (.bool false)) (h : Run P f N (.code y :: k) F w R) : Run P f N (.code (.cond c x y) :: k) F w R :=
 run_cond hc (fun h => by cases h) (fun _ => h)
theorem run_loop {σ : Type} {c : Code} (fr : σ → Fr) (I : Nat → σ → World → Prop) (n0 : Nat) (s0 : σ) (h0 : I n0 s0 w) (hF : ∀ i v, Fr.get (fr s0) i = some v → Fr.get F i = some v)
  (round : ∀ n s w, I n s w → (∀ m s' w', m < n → I m s' w' → Run P f N (.inLoop c :: k) (fr s') w' R) → Run P f N (.code c :: .inLoop c :: k) (fr s) w R) :
  Run P f N (.code (.loop c) :: k) F w R := by
 have key : ∀ n s w, I n s w → Run P f N (.code c :: .inLoop c :: k) (fr s) w R := by
  intro n
  induction n using Nat.strongRecOn with
  | _ n ih =>
   intro s w hI
   refine round n s w hI fun m s' w' hm hI' a ha => ?_
   exact RunA.of_step (fun _ => .one step_inLoop) (ih m hm s' w' hI' a ha)
 exact fun a ha => RunA.of_step (fun _ => .one step_loop) (key n0 s0 w h0 a (ha.weaken hF))
def Fr.Sub : Fr → Fr → Prop
 | [], _ => True
 | (i, v) :: F', F => Fr.get F i = some v ∧ Fr.Sub F' F
theorem Fr.Sub.get : ∀ {F' F : Fr}, Fr.Sub F' F → ∀ i v, Fr.get F' i = some v → Fr.get F i = some v
 | [], F, _, i, v, h => by simp [Fr.get] at h
 | (j, u) :: F', F, hs, i, v, h => by
  unfold Fr.get at h
  by_cases e : i = j
  ·subst e
   simp at h
   rw [← h]; exact hs.1
  ·have : Nat.beq i j = false := nbeq e
   simp only [this, cond_false] at h
   exact Fr.Sub.get hs.2 i v h
theorem Run.use {F' : Fr} (h : Run P f N k F' w R) (hs : Fr.Sub F' F) : Run P f N k F w R := h.weaken hs.get
theorem run_loop1 {α : Type} {c : Code} (mods : α → Fr) (ks : List Nat) (I : α → World → Prop) (μ : α → Nat) (s0 : α) (h0 : I s0 w) (hF : Fr.Sub (mods s0 ++ Fr.keep F ks) F)
  (round : ∀ s w, I s w → (∀ s' w', μ s' < μ s → I s' w' → Run P f N (.inLoop c :: k) (mods s' ++ Fr.keep F ks) w' R) → Run P f N (.code c :: .inLoop c :: k) (mods s ++ Fr.keep F ks) w R) :
  Run P f N (.code (.loop c) :: k) F w R :=
 run_loop (fun s => mods s ++ Fr.keep F ks) (fun n s w => n = μ s ∧ I s w) (μ s0) s0 ⟨rfl, h0⟩ hF.get
  (fun n s w ⟨hn, hI⟩ ih => round s w hI (fun s' w' hm hI' => ih (μ s') s' w' (by rw [hn]; exact hm) ⟨rfl, hI'⟩))
theorem run_loop2 {α β : Type} {c : Code} (mods : α → β → Fr) (ks : List Nat) (I : α → β → World → Prop) (μ : α → β → Nat) (a0 : α) (b0 : β) (h0 : I a0 b0 w) (hF : Fr.Sub (mods a0 b0 ++ Fr.keep F ks) F)
  (round : ∀ a b w, I a b w → (∀ a' b' w', μ a' b' < μ a b → I a' b' w' → Run P f N (.inLoop c :: k) (mods a' b' ++ Fr.keep F ks) w' R) → Run P f N (.code c :: .inLoop c :: k) (mods a b ++ Fr.keep F ks) w R) :
  Run P f N (.code (.loop c) :: k) F w R :=
 run_loop1 (α := α × β) (fun s => mods s.1 s.2) ks (fun s => I s.1 s.2) (fun s => μ s.1 s.2) (a0, b0) h0 hF (fun s w hI ih => round s.1 s.2 w hI (fun a' b' w' => ih (a', b') w'))
theorem run_loop3 {α β γ : Type} {c : Code} (mods : α → β → γ → Fr) (ks : List Nat) (I : α → β → γ → World → Prop) (μ : α → β → γ → Nat) (a0 : α) (b0 : β) (c0 : γ) (h0 : I a0 b0 c0 w) (hF : Fr.Sub (mods a0 b0 c0 ++ Fr.keep F ks) F)
  (round : ∀ a b s w, I a b s w → (∀ a' b' c' w', μ a' b' c' < μ a b s → I a' b' c' w' → Run P f N (.inLoop c :: k) (mods a' b' c' ++ Fr.keep F ks) w' R) → Run P f N (.code c :: .inLoop c :: k) (mods a b s ++ Fr.keep F ks) w R) :
  Run P f N (.code (.loop c) :: k) F w R :=
 run_loop1 (α := α × β × γ) (fun s => mods s.1 s.2.1 s.2.2) ks (fun s => I s.1 s.2.1 s.2.2) (fun s => μ s.1 s.2.1 s.2.2) (a0, b0, c0) h0 hF (fun s w hI ih => round s.1 s.2.1 s.2.2 w hI (fun a' b' c' w' => ih (a', b', c') w'))
theorem run_loop4 {α β γ δ : Type} {c : Code} (mods : α → β → γ → δ → Fr) (ks : List Nat) (I : α → β → γ → δ → World → Prop) (μ : α → β → γ → δ → Nat) (a0 : α) (b0 : β) (c0 : γ) (d0 : δ) (h0 : I a0 b0 c0 d0 w) (hF : Fr.Sub (mods a0 b0 c0 d0 ++ Fr.keep F ks) F)
  (round : ∀ a b s d w, I a b s d w → (∀ a' b' c' d' w', μ a' b' c' d' < μ a b s d → I a' b' c' d' w' → Run P f N (.inLoop c :: k) (mods a' b' c' d' ++ Fr.keep F ks) w' R) → Run P f N (.code c :: .inLoop c :: k) (mods a b s d ++ Fr.keep F ks) w R) :
  Run P f N (.code (.loop c) :: k) F w R :=
 run_loop1 (α := α × β × γ × δ) (fun s => mods s.1 s.2.1 s.2.2.1 s.2.2.2) ks (fun s => I s.1 s.2.1 s.2.2.1 s.2.2.2) (fun s => μ s.1 s.2.1 s.2.2.1 s.2.2.2) (a0, b0, c0, d0) h0 hF (fun s w hI ih => round s.1 s.2.1 s.2.2.1 s.2.2.2 w hI (fun a' b' c' d' w' => ih (a', b', c', d') w'))
theorem run_join1 {α : Type} {c : Code} (mods : α → Fr) (ks : List Nat) (I : α → World → Prop) (first : (∀ s w', I s w' → Run P f N k (mods s ++ Fr.keep F ks) w' R) → Run P f N (.code c :: k) F w R)
  (after : ∀ s w', I s w' → Run P f N k (mods s ++ Fr.keep F ks) w' R) : Run P f N (.code c :: k) F w R := first after
theorem run_join2 {α β : Type} {c : Code} (mods : α → β → Fr) (ks : List Nat) (I : α → β → World → Prop) (first : (∀ a b w', I a b w' → Run P f N k (mods a b ++ Fr.keep F ks) w' R) → Run P f N (.code c :: k) F w R)
  (after : ∀ a b w', I a b w' → Run P f N k (mods a b ++ Fr.keep F ks) w' R) : Run P f N (.code c :: k) F w R := first after
theorem run_join4 {α β γ δ : Type} {c : Code} (mods : α → β → γ → δ → Fr) (ks : List Nat) (I : α → β → γ → δ → World → Prop) (first : (∀ a b s d w', I a b s d w' → Run P f N k (mods a b s d ++ Fr.keep F ks) w' R) → Run P f N (.code c :: k) F w R)
  (after : ∀ a b s d w', I a b s d w' → Run P f N k (mods a b s d ++ Fr.keep F ks) w' R) : Run P f N (.code c :: k) F w R := first after
theorem slot_int {i : Nat} {kk : IntKind} {m n : Int} (h : Fr.get F i = some (.int kk m)) (e : m = n) : Fr.get F i = some (.int kk n) := by rw [h, e]
theorem jbf {p : Prop} {dp : Decidable p} {d : Nat} (h : Fr.get F d = some (.bool false)) (hp : ¬ p) : Fr.get F d = some (.bool (decide p)) := by rw [h, decide_eq_false hp]
theorem jbd {p q : Prop} {dp : Decidable p} {dq : Decidable q} {d : Nat} (h : Fr.get F d = some (.bool (decide q))) (hp : q ↔ p) : Fr.get F d = some (.bool (decide p)) := by rw [h]; simp [hp]
theorem run_ret {fn : Func} {v : Value} (hf : P.funcs[f]? = some fn) (hres : ∀ a, Holds N F a → (results fn a.tmps).run P w = .ok v w) (hR : R (.returned v) w) : Run P f N (.code .ret :: k) F w R := by
 intro a ha cs
 refine ⟨.returned v, w, _, hR, .one step_ret, rfl, rfl, ha.defs, rfl, fn, hf, hres a ha⟩
theorem run_end {fn : Func} {v : Value} (hf : P.funcs[f]? = some fn) (hres : ∀ a, Holds N F a → (results fn a.tmps).run P w = .ok v w) (hR : R (.returned v) w) : Run P f N [] F w R := by
 intro a ha cs
 refine ⟨.returned v, w, _, hR, .one step_end, rfl, rfl, ha.defs, rfl, fn, hf, hres a ha⟩
theorem res0 {fn : Func} (hr : fn.results = #[]) : ∀ a, Holds N F a → (results fn a.tmps).run P w = .ok (.tuple #[]) w :=
 fun _ _ => results_none hr _ _ _
theorem res1 {fn : Func} {t : Nat} {v : Value} (hr : fn.results = #[.tmp t]) (hv : Fr.get F t = some v) : ∀ a, Holds N F a → (results fn a.tmps).run P w = .ok v w := by
 intro a ha
 have := ha.at_ t v hv
 rw [results_tmp hr]
 simp [Array.getD_eq_getD_getElem?, this]
theorem res2 {fn : Func} {t u : Nat} {v x : Value} (hr : fn.results = #[.tmp t, .tmp u]) (hv : Fr.get F t = some v) (hx : Fr.get F u = some x) : ∀ a, Holds N F a → (results fn a.tmps).run P w = .ok (.tuple #[v, x]) w := by
 intro a ha
 have h1 := ha.at_ t v hv
 have h2 := ha.at_ u x hx
 rw [results_tmp2 hr]
 simp [Array.getD_eq_getD_getElem?, h1, h2]
theorem res3 {fn : Func} {t u s : Nat} {v x y : Value} (hr : fn.results = #[.tmp t, .tmp u, .tmp s]) (hv : Fr.get F t = some v) (hx : Fr.get F u = some x) (hy : Fr.get F s = some y) :
  ∀ a, Holds N F a → (results fn a.tmps).run P w = .ok (.tuple #[v, x, y]) w := by
 intro a ha
 have h1 := ha.at_ t v hv
 have h2 := ha.at_ u x hx
 have h3 := ha.at_ s y hy
 simp [results, hr, Array.getD_eq_getD_getElem?, h1, h2, h3]
def QK (P : Program) (f : Nat) (k : List Item) (R : Ending → World → Prop) : Exit → Act → World → Prop
 | .normal, a, w => RunA P f k a w R
 | .panic ch, a, w => a.defers = [] ∧ (∃ fn, P.funcs[f]? = some fn) ∧ R (.panicked ch) w
 | _, _, _ => False
def RL (P : Program) (f N : Nat) (ops : Array Oper) (l : List Oper) (k : List Item) (F : Fr) (w : World) (R : Ending → World → Prop) : Prop :=
 ∀ a, Holds N F a → wpList P ops (QK P f k R) l a w
theorem runA_of_wp {c : Code} (h : c.wp P (QK P f k R) a w) : RunA P f (.code c :: k) a w R := by
 intro cs
 obtain ⟨e, a', w', hq, harr⟩ := h (base f) k cs
 cases e with
 | normal =>
  obtain ⟨e, w'', fr, h1, h2, h3, h4⟩ := hq cs
  exact ⟨e, w'', fr, h1, Comes.of_steps harr h2, h3, h4⟩
 | panic ch =>
  obtain ⟨hd, ⟨fn, hfn⟩, hR⟩ := hq
  obtain ⟨todo, hs⟩ := harr
  exact ⟨.panicked ch, w', _, hR, hs, rfl, rfl, hd, fn, hfn⟩
 | exit _ => exact hq.elim
 | goto _ => exact hq.elim
 | ret => exact hq.elim
 | outgrown => exact hq.elim
theorem run_region {id : Nat} {l : List Oper} (h : RL P f N l.toArray l k F w R) : Run P f N (.code (.region id l.toArray false) :: k) F w R :=
 fun a ha => runA_of_wp (wp_region_lit (h a ha))
theorem rl_nil {ops : Array Oper} (h : Run P f N k F w R) : RL P f N ops [] k F w R := fun a ha => h a ha
def OpV (P : Program) (N : Nat) (o : Oper) (F : Fr) (w : World) (v : Value) : Prop := ∀ a, Holds N F a → (execOp a.eval o).run P w = .ok (.value v) w
variable {ops : Array Oper} {o : Oper} {rest : List Oper} {d : Nat} {v : Value}
theorem rl_v (hg : o.guard = none) (hd : o.dst = some d) (hN : Nat.blt d N = true) (hv : OpV P N o F w v) (h : RL P f N ops rest k ((d, v) :: F) w R) : RL P f N ops (o :: rest) k F w R := by
 intro a ha
 refine wpList_plain hg fun K hK => ?_
 unfold Oper.wp
 rw [hv a ha]
 show K (a.put o.dst v) w
 rw [hd]
 exact hK _ _ (h _ (ha.put (Nat.lt_of_lt_of_le (Nat.lt_succ_self d) (Nat.le_of_ble_eq_true hN)) v))
theorem yielded_of {j g : Nat} {b : Bool} (ha : Holds N F a) (hj : (ops[j]?).bind (·.dst) = some g) (hb : Fr.get F g = some (.bool b)) : yielded ops a.tmps j = some b := by
 simp [yielded, hj, ha.at_ g _ hb]
theorem rl_gv {j g : Nat} {b : Bool} (hg : o.guard = some (j, b)) (hj : (ops[j]?).bind (·.dst) = some g) (hb : Fr.get F g = some (.bool b)) (hd : o.dst = some d) (hN : Nat.blt d N = true) (hv : OpV P N o F w v)
  (h : RL P f N ops rest k ((d, v) :: F) w R) : RL P f N ops (o :: rest) k F w R := by
 intro a ha
 refine wpList_step fun K hK => ?_
 have hw : Region.wanted o (yielded ops a.tmps) = true := by simp [Region.wanted, hg, yielded_of ha hj hb]
 rw [if_pos hw]
 unfold Oper.wp
 rw [hv a ha]
 show K (a.put o.dst v) w
 rw [hd]
 exact hK _ _ (h _ (ha.put (Nat.lt_of_lt_of_le (Nat.lt_succ_self d) (Nat.le_of_ble_eq_true hN)) v))
theorem rl_gskip {j g : Nat} {b b' : Bool} (hg : o.guard = some (j, b)) (hj : (ops[j]?).bind (·.dst) = some g) (hb : Fr.get F g = some (.bool b')) (hne : (b' == b) = false) (hd : o.dst = some d) (hN : Nat.blt d N = true)
  (h : RL P f N ops rest k ((d, undef) :: F) w R) : RL P f N ops (o :: rest) k F w R := by
 intro a ha
 refine wpList_step fun K hK => ?_
 have hw : Region.wanted o (yielded ops a.tmps) = false := by
  simp only [Region.wanted, hg, yielded_of ha hj hb]
  simpa using hne
 rw [if_neg (by simp [hw]), hd]
 exact hK _ _ (h _ (ha.put (Nat.lt_of_lt_of_le (Nat.lt_succ_self d) (Nat.le_of_ble_eq_true hN)) undef))
theorem rl_split (g : Nat) {b : Bool} {l : List Oper} (hb : Fr.get F g = some (.bool b)) (ht : b = true → RL P f N ops l k ((g, .bool true) :: F) w R) (hf : b = false → RL P f N ops l k ((g, .bool false) :: F) w R) : RL P f N ops l k F w R := by
 intro a ha
 have hw : ∀ b', b = b' → Holds N ((g, .bool b') :: F) a := fun b' e => ha.weaken fun i u hu => by
  unfold Fr.get at hu
  by_cases e' : i = g
  ·subst e'; simp at hu; rw [← hu, ← e]; exact hb
  ·have : Nat.beq i g = false := nbeq e'
   simpa [this] using hu
 cases hb' : b
 ·exact hf hb' a (hw false hb')
 ·exact ht hb' a (hw true hb')
theorem rl_split_dec (g : Nat) {p : Prop} {dp : Decidable p} {l : List Oper} (hb : Fr.get F g = some (.bool (decide p))) (ht : p → RL P f N ops l k ((g, .bool true) :: F) w R) (hf : ¬ p → RL P f N ops l k ((g, .bool false) :: F) w R) : RL P f N ops l k F w R :=
 rl_split g hb (fun h => ht (of_decide_eq_true h)) (fun h => hf (of_decide_eq_false h))
end
end Go.Proofs.YtbcjfjldmfljgaaGreat
