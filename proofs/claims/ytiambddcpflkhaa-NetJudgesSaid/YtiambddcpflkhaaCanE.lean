/- Debts: the program's Ring: a walk in depth. -/
import Derived.Test.YtiambddcpflkhaaCanD
import Derived.Test.YtiambddcpflkhaaNetS
set_option maxRecDepth 100000
namespace Go.Proofs.Ytiambddcpflkhaa
open Go.RowKit Go.Proofs

/-- Parties, each of whom owes the next one something. -/
structure RingL (n : Nat) (D : Int → Int → Int) (l : List Int) : Prop where
  ne : l ≠ []
  nd : l.Nodup
  rng : ∀ x ∈ l, 0 ≤ x ∧ x < n
  owe : ∀ k, k < l.length → 0 < D (l.getD k 0) (l.getD ((k + 1) % l.length) 0)

theorem getD_mem {l : List Int} {k : Nat} (h : k < l.length) : l.getD k 0 ∈ l := by
  rw [List.getD_eq_getElem?_getD, List.getElem?_eq_getElem h]; exact List.getElem_mem h
theorem RingL.has {n : Nat} {D : Int → Int → Int} {l : List Int} (h : RingL n D l) : HasRing n D := by
  refine ⟨fun v => v ∈ l, ?_, fun v _ _ hv => ?_⟩
  · obtain ⟨x, hx⟩ := List.exists_mem_of_ne_nil _ h.ne
    exact ⟨x, (h.rng x hx).1, (h.rng x hx).2, hx⟩
  · obtain ⟨k, hk, rfl⟩ := List.getElem_of_mem hv
    have h1 := h.owe k hk
    have hk2 : (k + 1) % l.length < l.length := Nat.mod_lt _ (by omega)
    rw [List.getD_eq_getElem?_getD, List.getElem?_eq_getElem hk] at h1
    exact ⟨_, (h.rng _ (getD_mem hk2)).1, (h.rng _ (getD_mem hk2)).2, getD_mem hk2, h1⟩

structure Dfs (n : Nat) (D : Int → Int → Int) (S : Int → Int) (W : List Int) (f : Int → Int) (T : Int) : Prop where
  vals : ∀ v : Int, 0 ≤ v → v < n → S v = 0 ∨ S v = 1 ∨ S v = 2
  on : ∀ v ∈ W, 0 ≤ v ∧ v < n ∧ S v = 1
  one : ∀ v : Int, 0 ≤ v → v < n → S v = 1 → v ∈ W
  nd : W.Nodup
  link : ∀ k, k + 1 < W.length → 0 < D (W.getD k 0) (W.getD (k + 1) 0)
  fin : ∀ v : Int, 0 ≤ v → v < n → S v = 2 → f v < T ∧ ∀ j : Int, 0 ≤ j → j < n → 0 < D v j → S j = 2 ∧ f j < f v
  f0 : ∀ v, 0 ≤ f v
  T0 : 0 ≤ T

theorem getD_left {l : List Int} {x : Int} {k : Nat} (h : k < l.length) : (l ++ [x]).getD k 0 = l.getD k 0 := by
  rw [List.getD_eq_getElem?_getD, List.getD_eq_getElem?_getD, List.getElem?_append_left h]
theorem getD_last {l : List Int} {x : Int} : (l ++ [x]).getD l.length 0 = x := by
  rw [List.getD_eq_getElem?_getD]; simp

theorem Dfs.push {n : Nat} {D : Int → Int → Int} {S : Int → Int} {W : List Int} {f : Int → Int} {T i : Int} (h : Dfs n D S W f T) (i0 : 0 ≤ i) (i1 : i < n) (hi : S i = 0) (hl : ∀ k, k + 1 = W.length → 0 < D (W.getD k 0) i) : Dfs n D (upd S i 1) (W ++ [i]) f T := by
  have hni : i ∉ W := fun hm => by have := (h.on i hm).2.2; omega
  refine ⟨fun v v0 v1 => ?_, fun v hv => ?_, fun v v0 v1 hv => ?_, ?_, fun k hk => ?_, fun v v0 v1 hv => ?_, h.f0, h.T0⟩
  · unfold upd; split
    · exact .inr (.inl rfl)
    · exact h.vals v v0 v1
  · rw [List.mem_append, List.mem_singleton] at hv
    rcases hv with hv | rfl
    · have := h.on v hv
      refine ⟨this.1, this.2.1, ?_⟩
      unfold upd; split
      · rfl
      · exact this.2.2
    · exact ⟨i0, i1, upd_same _ _ _⟩
  · rw [List.mem_append, List.mem_singleton]
    by_cases e : v = i
    · exact .inr e
    · rw [upd_ne _ _ e] at hv
      exact .inl (h.one v v0 v1 hv)
  · rw [List.nodup_append]
    exact ⟨h.nd, by simp, fun a ha b hb => by rw [List.mem_singleton] at hb; rw [hb]; rintro rfl; exact hni ha⟩
  · rw [List.length_append, List.length_singleton] at hk
    rw [getD_left (show k < W.length by omega)]
    by_cases e : k + 1 = W.length
    · rw [e, getD_last]; exact hl k e
    · rw [getD_left (show k + 1 < W.length by omega)]; exact h.link k (by omega)
  · have e : v ≠ i := fun e => by rw [e, upd_same] at hv; omega
    rw [upd_ne _ _ e] at hv
    have h1 := h.fin v v0 v1 hv
    refine ⟨h1.1, fun j j0 j1 hd => ?_⟩
    have h2 := h1.2 j j0 j1 hd
    refine ⟨?_, h2.2⟩
    rw [upd_ne _ _ (fun e' => by rw [e'] at h2; omega)]
    exact h2.1

theorem Dfs.pop {n : Nat} {D : Int → Int → Int} {S : Int → Int} {W : List Int} {f : Int → Int} {T i : Int} (h : Dfs n D S (W ++ [i]) f T) (hd : ∀ j : Int, 0 ≤ j → j < n → 0 < D i j → S j = 2) : Dfs n D (upd S i 2) W (upd f i T) (T + 1) := by
  obtain ⟨i0, i1, hi⟩ := h.on i (by simp)
  have hni : i ∉ W := fun hm => by
    have := h.nd
    rw [List.nodup_append] at this
    exact this.2.2 i hm i (by simp) rfl
  refine ⟨fun v v0 v1 => ?_, fun v hv => ?_, fun v v0 v1 hv => ?_, ?_, fun k hk => ?_, fun v v0 v1 hv => ?_, fun v => ?_, by have := h.T0; omega⟩
  · unfold upd; split
    · exact .inr (.inr rfl)
    · exact h.vals v v0 v1
  · have := h.on v (by simp [hv])
    exact ⟨this.1, this.2.1, by rw [upd_ne _ _ (fun e => hni (by rw [← e]; exact hv))]; exact this.2.2⟩
  · have e : v ≠ i := fun e => by rw [e, upd_same] at hv; omega
    rw [upd_ne _ _ e] at hv
    have := h.one v v0 v1 hv
    rw [List.mem_append, List.mem_singleton] at this
    exact this.resolve_right e
  · have := h.nd
    rw [List.nodup_append] at this
    exact this.1
  · have := h.link k (by rw [List.length_append]; simp; omega)
    rwa [getD_left (show k < W.length by omega), getD_left hk] at this
  · by_cases e : v = i
    · subst e
      rw [upd_same]
      refine ⟨by omega, fun j j0 j1 hj => ?_⟩
      have h1 := hd j j0 j1 hj
      have e : j ≠ v := fun e => by rw [e] at h1; omega
      rw [upd_ne _ _ e, upd_ne _ _ e]
      exact ⟨h1, (h.fin j j0 j1 h1).1⟩
    · rw [upd_ne _ _ e] at hv
      rw [upd_ne _ _ e]
      have h1 := h.fin v v0 v1 hv
      refine ⟨by have := h1.1; omega, fun j j0 j1 hj => ?_⟩
      have h2 := h1.2 j j0 j1 hj
      have e2 : j ≠ i := fun e2 => by rw [e2] at h2; omega
      rw [upd_ne _ _ e2, upd_ne _ _ e2]
      exact h2
  · unfold upd; split
    · exact h.T0
    · exact h.f0 v

theorem Dfs.ring {n : Nat} {D : Int → Int → Int} {S : Int → Int} {W : List Int} {f : Int → Int} {T i j : Int} (h : Dfs n D S (W ++ [i]) f T) (hd : 0 < D i j) {r : Nat} (hr : r < (W ++ [i]).length) (hj : (W ++ [i]).getD r 0 = j) : RingL n D ((W ++ [i]).drop r) := by
  have hlen : ((W ++ [i]).drop r).length = W.length + 1 - r := by rw [List.length_drop, List.length_append, List.length_singleton]
  have hr' : r < W.length + 1 := by rw [List.length_append, List.length_singleton] at hr; exact hr
  have hg : ∀ k, ((W ++ [i]).drop r).getD k 0 = (W ++ [i]).getD (r + k) 0 := fun k => by
    rw [List.getD_eq_getElem?_getD, List.getD_eq_getElem?_getD, List.getElem?_drop]
  refine ⟨fun e => ?_, h.nd.sublist (List.drop_sublist _ _), fun x hx => ?_, fun k hk => ?_⟩
  · rw [e] at hlen; simp at hlen; omega
  · have := h.on x (List.mem_of_mem_drop hx)
    exact ⟨this.1, this.2.1⟩
  · rw [hlen] at hk ⊢
    rw [hg, hg]
    by_cases e : k + 1 < W.length + 1 - r
    · rw [Nat.mod_eq_of_lt e]
      exact h.link (r + k) (by rw [List.length_append, List.length_singleton]; omega)
    · rw [show k + 1 = W.length + 1 - r by omega, Nat.mod_self, Nat.add_zero, hj, show r + k = W.length by omega, getD_last]
      exact hd

theorem IAt.drop {B : Nat} {w : World} {b n : Nat} {G : Int → Value} (h : IAt B w (some ⟨b, 0, none⟩) n G) (r : Int) (r0 : 0 ≤ r) (r1 : r < n) : IAt B w (some ⟨b, 0 + r.toNat * 1, none⟩) (n - r.toNat) (fun i => G (i + r)) := by
  obtain ⟨b', o', h1, h2, h3⟩ := h
  cases h1 (by omega)
  refine ⟨_, 0 + r.toNat * 1, fun _ => rfl, fun _ => h2 (by omega), fun i hi => ?_⟩
  have := h3 (r.toNat + i) (by omega)
  rw [show 0 + r.toNat * 1 + i = 0 + (r.toNat + i) by omega, this]
  show some (G ((r.toNat + i : Nat) : Int)) = some (G ((i : Int) + r))
  rw [show ((r.toNat + i : Nat) : Int) = (i : Int) + r by omega]
theorem nodup_le {n : Nat} {l : List Int} (h : l.Nodup) (hr : ∀ x ∈ l, 0 ≤ x ∧ x < n) : l.length ≤ n := by
  refine Classical.byContradiction fun hx => ?_
  obtain ⟨a, b, h1, h2, h3⟩ := pigeon n (fun k => l.getD k 0) fun k hk => hr _ (getD_mem (by omega))
  have e1 : l.getD a 0 = l[a]'(by omega) := by rw [List.getD_eq_getElem?_getD, List.getElem?_eq_getElem (by omega)]; rfl
  have e2 : l.getD b 0 = l[b]'(by omega) := by rw [List.getD_eq_getElem?_getD, List.getElem?_eq_getElem (by omega)]; rfl
  exact List.pairwise_iff_getElem.1 h a b (by omega) (by omega) h1 (by rw [← e1, ← e2]; exact h3)
theorem lF_left {l : List Int} {x j : Int} (h0 : 0 ≤ j) (h1 : j < l.length) : lF (l ++ [x]) j = lF l j := by
  unfold lF; exact getD_left (by omega)
theorem lF_drop {l : List Int} {r : Nat} {j : Int} (h0 : 0 ≤ j) : lF (l.drop r) j = lF l (j + r) := by
  unfold lF
  rw [List.getD_eq_getElem?_getD, List.getD_eq_getElem?_getD, List.getElem?_drop, show (j + (r : Int)).toNat = r + j.toNat by omega]

theorem run_loop6 {P : Program} {f N : Nat} {k : List Item} {F : Fr} {w : World} {R : Ending → World → Prop} {α β γ δ ε ζ : Type} {c : Code} (mods : α → β → γ → δ → ε → ζ → Fr) (ks : List Nat) (I : α → β → γ → δ → ε → ζ → World → Prop) (μ : α → β → γ → δ → ε → ζ → Nat) (a0 : α) (b0 : β) (c0 : γ) (d0 : δ) (e0 : ε) (f0 : ζ) (h0 : I a0 b0 c0 d0 e0 f0 w) (hF : Fr.Sub (mods a0 b0 c0 d0 e0 f0 ++ Fr.keep F ks) F)
    (round : ∀ a b s d e z w, I a b s d e z w → (∀ a' b' c' d' e' z' w', μ a' b' c' d' e' z' < μ a b s d e z → I a' b' c' d' e' z' w' → Run P f N (.inLoop c :: k) (mods a' b' c' d' e' z' ++ Fr.keep F ks) w' R) → Run P f N (.code c :: .inLoop c :: k) (mods a b s d e z ++ Fr.keep F ks) w R) :
    Run P f N (.code (.loop c) :: k) F w R :=
  run_loop1 (α := α × β × γ × δ × ε × ζ) (fun s => mods s.1 s.2.1 s.2.2.1 s.2.2.2.1 s.2.2.2.2.1 s.2.2.2.2.2) ks (fun s => I s.1 s.2.1 s.2.2.1 s.2.2.2.1 s.2.2.2.2.1 s.2.2.2.2.2) (fun s => μ s.1 s.2.1 s.2.2.1 s.2.2.2.1 s.2.2.2.2.1 s.2.2.2.2.2) (a0, b0, c0, d0, e0, f0) h0 hF (fun s w hI ih => round s.1 s.2.1 s.2.2.1 s.2.2.2.1 s.2.2.2.2.1 s.2.2.2.2.2 w hI (fun a' b' c' d' e' z' w' => ih (a', b', c', d', e', z') w'))

theorem ringWalk_any (n c b1 b4 b5 b6 sb : Nat) (ao : Option Addr) (D : Int → Int → Int) (B : Nat) (w0 : World) (H : List (Option Blk)) (hv : Valid n D) (h : ITab B w0 ao n (fun _ => n) (fun r c => .int .i64 (D r c))) :
    ∀ (t : Nat) (i : Int) (S : Int → Int) (W : List Int) (f : Int → Int) (T : Int) (wv : Value) (cw : Option Blk) (w : World), (pk (fun v => decide (S v = 0)) n).length = t → 0 ≤ i → i < n → S i = 0 → (∀ k, k + 1 = W.length → 0 < D (W.getD k 0) i) → Dfs n D S W f T → W.length ≤ n → IRow wv 3 W.length (fun j => .int .i64 (lF W j)) cw →
      Own B w0 w (cw :: some (lch b5 55 [wv]) :: some (vch sb 3 n (fun v => .int .i64 (S v))) :: some (lch b4 55 [.slice (some ⟨sb, 0, none⟩) n n]) :: some (lch b6 111 [.func (.func 77) #[] #[.pointer (some ⟨b4, 0, none⟩), .pointer (some ⟨b5, 0, none⟩), .pointer (some ⟨b1, 0, none⟩), .pointer (some ⟨b6, 0, none⟩)]]) :: some (lch b1 22 [.slice ao n c]) :: H) →
      Calls Try.prog 77 (#[.int .i64 i] ++ #[.pointer (some ⟨b4, 0, none⟩), .pointer (some ⟨b5, 0, none⟩), .pointer (some ⟨b1, 0, none⟩), .pointer (some ⟨b6, 0, none⟩)]) w fun e w' => ∃ bb, e = .returned (.bool bb) ∧
        (bb = false ∧ (∃ (S' f' : Int → Int) (T' : Int) (wv' : Value) (cw' : Option Blk), Own B w0 w' (cw' :: some (lch b5 55 [wv']) :: some (vch sb 3 n (fun v => .int .i64 (S' v))) :: some (lch b4 55 [.slice (some ⟨sb, 0, none⟩) n n]) :: some (lch b6 111 [.func (.func 77) #[] #[.pointer (some ⟨b4, 0, none⟩), .pointer (some ⟨b5, 0, none⟩), .pointer (some ⟨b1, 0, none⟩), .pointer (some ⟨b6, 0, none⟩)]]) :: some (lch b1 22 [.slice ao n c]) :: H) ∧ IRow wv' 3 W.length (fun j => .int .i64 (lF W j)) cw' ∧ Dfs n D S' W f' T' ∧ S' i = 2 ∧ (∀ v : Int, 0 ≤ v → v < n → S v = 2 → S' v = 2) ∧ ∀ v : Int, 0 ≤ v → v < n → S' v = 0 → S v = 0) ∨
         bb = true ∧ ∃ (l : List Int) (ao' : Option Addr) (cap' : Nat), RingL n D l ∧ IAt w'.heap.size w' ao' l.length (fun j => .int .i64 (lF l j)) ∧ Own B w0 w' (some (lch b5 55 [.slice ao' l.length cap']) :: H)) := by
  obtain ⟨A, C, RB, RO, gb, go, hga, hrow, hra, hel, _⟩ := h.open
  have hle := hv.le
  intro t
  induction t using Nat.strongRecOn with
  | _ t ih =>
    intro i S W f T wv cw w hz i0 i1 hi hl hd hWn hr hO
    have hd1 := hd.push i0 i1 hi hl
    have hlW : (W ++ [i]).length = W.length + 1 := by rw [List.length_append, List.length_singleton]
    have hWn1 : (W ++ [i]).length ≤ n := nodup_le hd1.nd fun x hx => ⟨(hd1.on x hx).1, (hd1.on x hx).2.1⟩
    refine calls_of_run (F := [(0, _), (1, _), (2, _), (3, _), (4, _)]) Try.func77 rfl Try.ntmps77 rfl rfl ?_
    refine run_seq ?_
    refine run_region ?_
    refine rl_v rfl rfl rfl (ov_assign rfl rfl) ?_
    refine rl_nil ?_
    refine run_seq ?_
    refine run_region ?_
    refine rl_v rfl rfl rfl (ov_load rfl Try.underlying55 rfl rfl (by first | exact hO.cellL 3 rfl rfl)) ?_
    refine rl_v rfl rfl rfl (ov_move rfl rfl) ?_
    refine rl_v rfl rfl rfl (ov_index1 rfl Try.underlying55 (by kernel_rfl) rfl rfl ⟨by omega, by omega⟩ (by first | rfl | exact hga (by omega) | exact hra _ (by omega) (by omega) (by omega))) ?_
    refine rl_ow rfl (ow_storeI rfl rfl (by kernel_rfl) hO 2 rfl rfl ⟨by omega, by omega⟩ rfl) ?_
    rintro _ w1 ⟨rfl, hO2, hs3⟩
    refine rl_nil ?_
    refine run_seq ?_
    refine run_region ?_
    refine rl_v rfl rfl rfl (ov_load rfl Try.underlying55 rfl rfl (by first | exact hO2.cellL 1 rfl rfl)) ?_
    refine rl_v rfl rfl rfl (ov_move rfl rfl) ?_
    refine rl_appI rfl rfl rfl rfl rfl rfl rfl rfl Try.underlying55 info_3 rfl hO2 0 hr rfl rfl rfl ⟨by omega, by omega⟩ (fun v5 c5 w4 hO5 hr5 hs6 => ?_)
    obtain ⟨a5, p5, rfl⟩ := hr5.val
    refine rl_ow rfl (ow_storeL rfl rfl (by kernel_rfl) hO5 1 rfl rfl rfl rfl rfl) ?_
    rintro _ w7 ⟨rfl, hO8, hs9⟩
    have hr6 : IRow (.slice a5 (W.length + 1) p5) 3 (W ++ [i]).length (fun j => .int .i64 (lF (W ++ [i]) j)) c5 := row_snoc hr5
    rw [← hlW] at hr6
    refine rl_nil ?_
    refine run_seq ?_
    refine run_seq ?_
    refine run_region ?_
    refine rl_v rfl rfl rfl (ov_load rfl Try.underlying22 rfl rfl (by first | exact hO8.cellL 5 rfl rfl)) ?_
    refine rl_v rfl rfl rfl (ov_move rfl rfl) ?_
    refine rl_v rfl rfl rfl (ov_index1 rfl Try.underlying22 (by kernel_rfl) rfl rfl ⟨by omega, by omega⟩ (by first | rfl | exact hga (by omega) | exact hra _ (by omega) (by omega) (by omega))) ?_
    refine rl_v rfl rfl rfl (ov_load rfl Try.underlying23 rfl rfl (by first | exact hrow _ hO8.below _ (by omega) (by omega) | exact hel _ hO8.below _ (by omega) (by omega) _ (by omega) (by omega) | exact hO8.cellI 0 rfl _ (by omega) (by omega) | exact hO8.cellL 0 rfl rfl | exact hO8.cellI 1 rfl _ (by omega) (by omega) | exact hO8.cellL 1 rfl rfl | exact hO8.cellI 2 rfl _ (by omega) (by omega) | exact hO8.cellL 2 rfl rfl | exact hO8.cellI 3 rfl _ (by omega) (by omega) | exact hO8.cellL 3 rfl rfl | exact hO8.cellI 4 rfl _ (by omega) (by omega) | exact hO8.cellL 4 rfl rfl | exact hO8.cellI 5 rfl _ (by omega) (by omega) | exact hO8.cellL 5 rfl rfl)) ?_
    refine rl_v rfl rfl rfl (ov_len rfl Try.underlying23 rfl) ?_
    refine rl_v rfl rfl rfl (ov_move rfl rfl) ?_
    refine rl_nil ?_
    refine run_block ?_
    refine Run.keep [0, 1, 2, 4, 19, 20, 21] (F' := [(0, _), (1, _), (2, _), (4, _), (19, _), (20, _), (21, _)]) rfl ?_
    refine run_loop6 (fun (j : Int) (S' : Int → Int) (f' : Int → Int) (T' : Int) (wv : Value) (cw : Option Blk) => [(21, .int .i64 j)]) [0, 1, 2, 4, 19, 20] (fun (j : Int) (S' : Int → Int) (f' : Int → Int) (T' : Int) (wv : Value) (cw : Option Blk) (w10 : World) => 0 ≤ j ∧ j ≤ n ∧ Dfs n D S' (W ++ [i]) f' T' ∧ (∀ v : Int, 0 ≤ v → v < n → S v = 2 → S' v = 2) ∧ (∀ v : Int, 0 ≤ v → v < n → S' v = 0 → S v = 0 ∧ v ≠ i) ∧ (∀ u : Int, 0 ≤ u → u < j → 0 < D i u → S' u = 2) ∧ IRow wv 3 (W ++ [i]).length (fun j => .int .i64 (lF (W ++ [i]) j)) cw ∧ Own B w0 w10 (cw :: some (lch b5 55 [wv]) :: some (vch sb 3 n (fun v => .int .i64 (S' v))) :: some (lch b4 55 [.slice (some ⟨sb, 0, none⟩) n n]) :: some (lch b6 111 [.func (.func 77) #[] #[.pointer (some ⟨b4, 0, none⟩), .pointer (some ⟨b5, 0, none⟩), .pointer (some ⟨b1, 0, none⟩), .pointer (some ⟨b6, 0, none⟩)]]) :: some (lch b1 22 [.slice ao n c]) :: H)) (fun (j : Int) (S' : Int → Int) (f' : Int → Int) (T' : Int) (wv : Value) (cw : Option Blk) => ((n : Int) - j).toNat) (0) (upd S i 1) (f) (T) (.slice a5 (W ++ [i]).length p5) (c5) ?_ (And.intro (by first | with_reducible rfl | exact slot_int rfl (by first | omega) | rfl) (And.intro rfl (And.intro rfl (And.intro rfl (And.intro rfl (And.intro rfl (And.intro rfl trivial))))))) ?_
    · exact ⟨by omega, by omega, hd1, fun v v0 v1 q => by rw [upd_ne _ _ (fun e => by rw [e] at q; omega)]; exact q, fun v v0 v1 q => by unfold upd at q; split at q; omega; (rename_i e; exact ⟨q, e⟩), fun u u0 u1 => by omega, hr6, by rw [hlW]; exact hO8⟩
    intro j S' f' T' wv cw w10 hIw10 ih11
    obtain ⟨hj0, hj1, hD, hm2, hm0, hdone, hrr, hO⟩ := hIw10
    show Run _ _ _ _ [(21, _), (0, _), (1, _), (2, _), (4, _), (19, _), (20, _)] _ _
    refine run_seq ?_
    refine run_region ?_
    refine rl_v rfl rfl rfl (ov_lss rfl rfl rfl) ?_
    refine rl_nil ?_
    refine run_seq ?_
    first | refine run_cond_dec rfl (fun h1 => ?_) (fun h1 => ?_) | refine run_cond rfl (fun h1 => ?_) (fun h1 => ?_)
    · refine run_skip ?_
      refine run_seq ?_
      refine run_block ?_
      refine run_seq ?_
      refine run_region ?_
      refine rl_v rfl rfl rfl (ov_move rfl rfl) ?_
      refine rl_v rfl rfl rfl (ov_index1 rfl Try.underlying23 (by kernel_rfl) rfl rfl ⟨by omega, by omega⟩ (by first | rfl | exact hga (by omega) | exact hra _ (by omega) (by omega) (by omega))) ?_
      refine rl_v rfl rfl rfl (ov_load rfl Try.underlying2 rfl rfl (by first | exact hrow _ hO.below _ (by omega) (by omega) | exact hel _ hO.below _ (by omega) (by omega) _ (by omega) (by omega) | exact hO.cellI 0 rfl _ (by omega) (by omega) | exact hO.cellL 0 rfl rfl | exact hO.cellI 1 rfl _ (by omega) (by omega) | exact hO.cellL 1 rfl rfl | exact hO.cellI 2 rfl _ (by omega) (by omega) | exact hO.cellL 2 rfl rfl | exact hO.cellI 3 rfl _ (by omega) (by omega) | exact hO.cellL 3 rfl rfl | exact hO.cellI 4 rfl _ (by omega) (by omega) | exact hO.cellL 4 rfl rfl | exact hO.cellI 5 rfl _ (by omega) (by omega) | exact hO.cellL 5 rfl rfl)) ?_
      refine rl_v rfl rfl rfl (ov_assign rfl rfl) ?_
      refine rl_v rfl rfl rfl (ov_assign rfl rfl) ?_
      refine rl_nil ?_
      refine run_seq ?_
      refine run_seq ?_
      refine run_region ?_
      refine rl_v rfl rfl rfl (ov_move rfl rfl) ?_
      refine rl_v rfl rfl rfl (ov_eql rfl rfl rfl) ?_
      refine rl_v rfl rfl rfl (ov_move rfl rfl) ?_
      first | refine rl_split_dec 28 rfl (fun g1 => ?_) (fun g1 => ?_) | refine rl_split 28 rfl (fun g1 => ?_) (fun g1 => ?_)
      · refine rl_gskip rfl rfl rfl rfl rfl rfl ?_
        refine rl_gskip rfl rfl rfl rfl rfl rfl ?_
        refine rl_gskip rfl rfl rfl rfl rfl rfl ?_
        refine rl_gskip rfl rfl rfl rfl rfl rfl ?_
        refine rl_gskip rfl rfl rfl rfl rfl rfl ?_
        refine rl_v rfl rfl rfl (ov_pick_t rfl rfl rfl) ?_
        refine rl_nil ?_
        refine run_cond_t rfl ?_
        refine run_exit rfl ?_
        refine run_region ?_
        refine rl_v rfl rfl rfl (ov_add rfl rfl rfl (by omega)) ?_
        refine rl_v rfl rfl rfl (ov_move rfl rfl) ?_
        refine rl_nil ?_
        refine Run.use (ih11 (j + 1) (S') (f') (T') (wv) (cw) _ ?_ ?_) (And.intro (by first | with_reducible rfl | exact slot_int rfl (by first | omega) | rfl) (And.intro rfl (And.intro rfl (And.intro rfl (And.intro rfl (And.intro rfl (And.intro rfl trivial)))))))
        · first | omega | (dsimp only; omega)
        · exact ⟨by omega, by omega, hD, hm2, hm0, fun u u0 u1 q => (by omega : u = j ∨ u < j).elim (fun e => by rw [e] at q; omega) (fun e => hdone u u0 e q), hrr, hO⟩
      · have hdj : 0 < D i j := by have := hv.lo i j; omega
        refine rl_gv rfl rfl rfl rfl rfl (ov_load rfl Try.underlying55 rfl rfl (by first | exact hO.cellL 3 rfl rfl)) ?_
        refine rl_gv rfl rfl rfl rfl rfl (ov_move rfl rfl) ?_
        refine rl_gv rfl rfl rfl rfl rfl (ov_index1 rfl Try.underlying55 (by kernel_rfl) rfl rfl ⟨by omega, by omega⟩ (by first | rfl | exact hga (by omega) | exact hra _ (by omega) (by omega) (by omega))) ?_
        refine rl_gv rfl rfl rfl rfl rfl (ov_load rfl Try.underlying3 rfl rfl (by first | exact hO.cellI 2 rfl _ (by omega) (by omega))) ?_
        refine rl_gv rfl rfl rfl rfl rfl (ov_eql rfl rfl rfl) ?_
        refine rl_v rfl rfl rfl (ov_pick_f rfl rfl rfl) ?_
        refine rl_nil ?_
        first | refine run_cond_dec rfl (fun h2 => ?_) (fun h2 => ?_) | refine run_cond rfl (fun h2 => ?_) (fun h2 => ?_)
        · refine run_exit rfl ?_
          refine run_region ?_
          refine rl_v rfl rfl rfl (ov_add rfl rfl rfl (by omega)) ?_
          refine rl_v rfl rfl rfl (ov_move rfl rfl) ?_
          refine rl_nil ?_
          refine Run.use (ih11 (j + 1) (S') (f') (T') (wv) (cw) _ ?_ ?_) (And.intro (by first | with_reducible rfl | exact slot_int rfl (by first | omega) | rfl) (And.intro rfl (And.intro rfl (And.intro rfl (And.intro rfl (And.intro rfl (And.intro rfl trivial)))))))
          · first | omega | (dsimp only; omega)
          · exact ⟨by omega, by omega, hD, hm2, hm0, fun u u0 u1 q => (by omega : u = j ∨ u < j).elim (fun e => by rw [e]; exact h2) (fun e => hdone u u0 e q), hrr, hO⟩
        · refine run_skip ?_
          refine run_seq ?_
          refine run_seq ?_
          refine run_region ?_
          refine rl_v rfl rfl rfl (ov_load rfl Try.underlying55 rfl rfl (by first | exact hO.cellL 3 rfl rfl)) ?_
          refine rl_v rfl rfl rfl (ov_move rfl rfl) ?_
          refine rl_v rfl rfl rfl (ov_index1 rfl Try.underlying55 (by kernel_rfl) rfl rfl ⟨by omega, by omega⟩ (by first | rfl | exact hga (by omega) | exact hra _ (by omega) (by omega) (by omega))) ?_
          refine rl_v rfl rfl rfl (ov_load rfl Try.underlying3 rfl rfl (by first | exact hO.cellI 2 rfl _ (by omega) (by omega))) ?_
          refine rl_v rfl rfl rfl (ov_eql rfl rfl rfl) ?_
          refine rl_nil ?_
          first | refine run_cond_dec rfl (fun h3 => ?_) (fun h3 => ?_) | refine run_cond rfl (fun h3 => ?_) (fun h3 => ?_)
          · obtain ⟨aw, pw, rfl⟩ := hrr.val
            obtain ⟨wb, Gw, rfl, hq1, hq2, rfl, hGw⟩ := hrr.asV (by omega)
            have hjm := hD.one j hj0 h1 h3
            refine run_seq ?_
            refine run_held (fun w' => Own B w0 w' (H)) mixed ?_
            have hO14 := hO.drew
            generalize World.drew w10 = w13 at hO14 ⊢
            have hS15 : Own B w0 w13 (H) := by exact hO14.sub (.cons _ (.cons _ (.cons _ (.cons _ (.cons _ (.cons _ (.refl _)))))))
            refine rh_v 2 rfl (by kernel_rfl) rfl rfl rfl hS15 (fun _ hS => ov_move rfl rfl) ?_
            refine rh_any2 0 1 (by kernel_rfl) ?_ ?_
            · refine rc_op rfl rfl (ow_v rfl rfl (ov_load rfl Try.underlying55 rfl rfl (by first | exact hO14.cellL 1 rfl rfl))) ?_
              rintro _ _ ⟨rfl, rfl⟩
              refine ⟨hS15, ?_⟩
              refine rh_any1 1 (by kernel_rfl) ?_
              refine rc_op rfl rfl (ow_v rfl rfl (ov_load rfl Try.underlying55 rfl rfl (by first | exact hO14.cellL 1 rfl rfl))) ?_
              rintro _ _ ⟨rfl, rfl⟩
              refine ⟨hS15, ?_⟩
              refine rh_any1 3 (by kernel_rfl) ?_
              refine rc_op rfl rfl (ow_call2 callable_78 rfl rfl rfl rfl rfl (indexInt_any _ _ _ (lF (W ++ [i])) j _ (by omega) (hrr.reads hO14 0 rfl)) (by intro e w' hp; obtain ⟨⟨r, rfl, hri⟩, hb3⟩ := hp; exact ⟨_, rfl⟩)) ?_
              rintro _ w18 ⟨_, v16, he19, rfl, hp17⟩
              obtain ⟨⟨r, rfl, hri⟩, hb3⟩ := hp17
              injection he19 with he19; subst he19
              have hO20 := hO14.past hb3
              have hS21 : Own B w0 w18 (H) := by exact hO20.sub (.cons _ (.cons _ (.cons _ (.cons _ (.cons _ (.cons _ (.refl _)))))))
              refine ⟨hS21, ?_⟩
              obtain ⟨r0, r1, r2⟩ : 0 ≤ r ∧ r < (W ++ [i]).length ∧ lF (W ++ [i]) r = j := hri.resolve_left fun hx => by obtain ⟨q, q0, q1, e⟩ := lF_mem.1 hjm; exact hx.2 q q0 q1 e
              refine rh_v 4 rfl (by kernel_rfl) rfl rfl rfl hS21 (fun _ hS => ov_sliceL rfl Try.underlying55 (by kernel_rfl) (s := 1) rfl rfl ⟨by omega, by omega⟩ (by omega) rfl) ?_
              refine rh_any1 5 (by kernel_rfl) ?_
              refine rc_op rfl rfl (ow_storeL rfl rfl (by kernel_rfl) hO20 1 rfl rfl rfl rfl rfl) ?_
              rintro _ w22 ⟨rfl, hO23, hs24⟩
              have hS25 : Own B w0 w22 (H) := by exact hO23.sub (.cons _ (.cons _ (.cons _ (.cons _ (.cons _ (.cons _ (.refl _)))))))
              refine ⟨hS25, ?_⟩
              have hIr : IAt w22.heap.size w22 (some ⟨wb, 0 + r.toNat * 1, none⟩) ((W ++ [i]).drop r.toNat).length (fun k => .int .i64 (lF ((W ++ [i]).drop r.toNat) k)) := by
                rw [List.length_drop]
                exact (((hO23.readsI 0 rfl).take hq1).drop r r0 r1).congr fun k k0 k1 => by rw [hGw (k + r) (by omega) (by omega), lF_drop k0, Int.toNat_of_nonneg r0]
              refine rh_done (by kernel_rfl) ?_
              refine run_seq ?_
              refine run_region ?_
              refine rl_v rfl rfl rfl (ov_assign rfl rfl) ?_
              refine rl_nil ?_
              refine run_ret Try.func77 (res1 Try.results77 rfl) ?_
              exact ⟨true, rfl, .inr ⟨rfl, (W ++ [i]).drop r.toNat, some ⟨wb, 0 + r.toNat * 1, none⟩, pw - r.toNat, hD.ring hdj (r := r.toNat) (by omega) r2, hIr, by rw [List.length_drop]; exact hO23.sub (.cons _ (.cons_cons _ (.cons _ (.cons _ (.cons _ (.cons _ (.refl _)))))))⟩⟩
            · refine rc_op rfl rfl (ow_v rfl rfl (ov_load rfl Try.underlying55 rfl rfl (by first | exact hO14.cellL 1 rfl rfl))) ?_
              rintro _ _ ⟨rfl, rfl⟩
              refine ⟨hS15, ?_⟩
              refine rh_any2 0 3 (by kernel_rfl) ?_ ?_
              · refine rc_op rfl rfl (ow_v rfl rfl (ov_load rfl Try.underlying55 rfl rfl (by first | exact hO14.cellL 1 rfl rfl))) ?_
                rintro _ _ ⟨rfl, rfl⟩
                refine ⟨hS15, ?_⟩
                refine rh_any1 3 (by kernel_rfl) ?_
                refine rc_op rfl rfl (ow_call2 callable_78 rfl rfl rfl rfl rfl (indexInt_any _ _ _ (lF (W ++ [i])) j _ (by omega) (hrr.reads hO14 0 rfl)) (by intro e w' hp; obtain ⟨⟨r, rfl, hri⟩, hb3⟩ := hp; exact ⟨_, rfl⟩)) ?_
                rintro _ w28 ⟨_, v26, he29, rfl, hp27⟩
                obtain ⟨⟨r, rfl, hri⟩, hb3⟩ := hp27
                injection he29 with he29; subst he29
                have hO30 := hO14.past hb3
                have hS31 : Own B w0 w28 (H) := by exact hO30.sub (.cons _ (.cons _ (.cons _ (.cons _ (.cons _ (.cons _ (.refl _)))))))
                refine ⟨hS31, ?_⟩
                obtain ⟨r0, r1, r2⟩ : 0 ≤ r ∧ r < (W ++ [i]).length ∧ lF (W ++ [i]) r = j := hri.resolve_left fun hx => by obtain ⟨q, q0, q1, e⟩ := lF_mem.1 hjm; exact hx.2 q q0 q1 e
                refine rh_v 4 rfl (by kernel_rfl) rfl rfl rfl hS31 (fun _ hS => ov_sliceL rfl Try.underlying55 (by kernel_rfl) (s := 1) rfl rfl ⟨by omega, by omega⟩ (by omega) rfl) ?_
                refine rh_any1 5 (by kernel_rfl) ?_
                refine rc_op rfl rfl (ow_storeL rfl rfl (by kernel_rfl) hO30 1 rfl rfl rfl rfl rfl) ?_
                rintro _ w32 ⟨rfl, hO33, hs34⟩
                have hS35 : Own B w0 w32 (H) := by exact hO33.sub (.cons _ (.cons _ (.cons _ (.cons _ (.cons _ (.cons _ (.refl _)))))))
                refine ⟨hS35, ?_⟩
                have hIr : IAt w32.heap.size w32 (some ⟨wb, 0 + r.toNat * 1, none⟩) ((W ++ [i]).drop r.toNat).length (fun k => .int .i64 (lF ((W ++ [i]).drop r.toNat) k)) := by
                  rw [List.length_drop]
                  exact (((hO33.readsI 0 rfl).take hq1).drop r r0 r1).congr fun k k0 k1 => by rw [hGw (k + r) (by omega) (by omega), lF_drop k0, Int.toNat_of_nonneg r0]
                refine rh_done (by kernel_rfl) ?_
                refine run_seq ?_
                refine run_region ?_
                refine rl_v rfl rfl rfl (ov_assign rfl rfl) ?_
                refine rl_nil ?_
                refine run_ret Try.func77 (res1 Try.results77 rfl) ?_
                exact ⟨true, rfl, .inr ⟨rfl, (W ++ [i]).drop r.toNat, some ⟨wb, 0 + r.toNat * 1, none⟩, pw - r.toNat, hD.ring hdj (r := r.toNat) (by omega) r2, hIr, by rw [List.length_drop]; exact hO33.sub (.cons _ (.cons_cons _ (.cons _ (.cons _ (.cons _ (.cons _ (.refl _)))))))⟩⟩
              · refine rc_op rfl rfl (ow_call2 callable_78 rfl rfl rfl rfl rfl (indexInt_any _ _ _ (lF (W ++ [i])) j _ (by omega) (hrr.reads hO14 0 rfl)) (by intro e w' hp; obtain ⟨⟨r, rfl, hri⟩, hb3⟩ := hp; exact ⟨_, rfl⟩)) ?_
                rintro _ w38 ⟨_, v36, he39, rfl, hp37⟩
                obtain ⟨⟨r, rfl, hri⟩, hb3⟩ := hp37
                injection he39 with he39; subst he39
                have hO40 := hO14.past hb3
                have hS41 : Own B w0 w38 (H) := by exact hO40.sub (.cons _ (.cons _ (.cons _ (.cons _ (.cons _ (.cons _ (.refl _)))))))
                refine ⟨hS41, ?_⟩
                obtain ⟨r0, r1, r2⟩ : 0 ≤ r ∧ r < (W ++ [i]).length ∧ lF (W ++ [i]) r = j := hri.resolve_left fun hx => by obtain ⟨q, q0, q1, e⟩ := lF_mem.1 hjm; exact hx.2 q q0 q1 e
                refine rh_any1 0 (by kernel_rfl) ?_
                refine rc_op rfl rfl (ow_v rfl rfl (ov_load rfl Try.underlying55 rfl rfl (by first | exact hO40.cellL 1 rfl rfl))) ?_
                rintro _ _ ⟨rfl, rfl⟩
                refine ⟨hS41, ?_⟩
                refine rh_v 4 rfl (by kernel_rfl) rfl rfl rfl hS41 (fun _ hS => ov_sliceL rfl Try.underlying55 (by kernel_rfl) (s := 1) rfl rfl ⟨by omega, by omega⟩ (by omega) rfl) ?_
                refine rh_any1 5 (by kernel_rfl) ?_
                refine rc_op rfl rfl (ow_storeL rfl rfl (by kernel_rfl) hO40 1 rfl rfl rfl rfl rfl) ?_
                rintro _ w42 ⟨rfl, hO43, hs44⟩
                have hS45 : Own B w0 w42 (H) := by exact hO43.sub (.cons _ (.cons _ (.cons _ (.cons _ (.cons _ (.cons _ (.refl _)))))))
                refine ⟨hS45, ?_⟩
                have hIr : IAt w42.heap.size w42 (some ⟨wb, 0 + r.toNat * 1, none⟩) ((W ++ [i]).drop r.toNat).length (fun k => .int .i64 (lF ((W ++ [i]).drop r.toNat) k)) := by
                  rw [List.length_drop]
                  exact (((hO43.readsI 0 rfl).take hq1).drop r r0 r1).congr fun k k0 k1 => by rw [hGw (k + r) (by omega) (by omega), lF_drop k0, Int.toNat_of_nonneg r0]
                refine rh_done (by kernel_rfl) ?_
                refine run_seq ?_
                refine run_region ?_
                refine rl_v rfl rfl rfl (ov_assign rfl rfl) ?_
                refine rl_nil ?_
                refine run_ret Try.func77 (res1 Try.results77 rfl) ?_
                exact ⟨true, rfl, .inr ⟨rfl, (W ++ [i]).drop r.toNat, some ⟨wb, 0 + r.toNat * 1, none⟩, pw - r.toNat, hD.ring hdj (r := r.toNat) (by omega) r2, hIr, by rw [List.length_drop]; exact hO43.sub (.cons _ (.cons_cons _ (.cons _ (.cons _ (.cons _ (.cons _ (.refl _)))))))⟩⟩
          · have hs0 : S' j = 0 := by have := hD.vals j hj0 h1; omega
            have hS'i : S' i = 1 := (hD.on i (by simp)).2.2
            have hlt : (pk (fun v => decide (S' v = 0)) n).length < t := by
              rw [← hz]
              exact pk_lt (fun v v0 v1 q => decide_eq_true (hm0 v v0 v1 (of_decide_eq_true q)).1) i i0 i1 (decide_eq_false (by omega)) (decide_eq_true hi)
            have hlk : ∀ k, k + 1 = (W ++ [i]).length → 0 < D ((W ++ [i]).getD k 0) j := fun k hk => by rw [show k = W.length by omega, getD_last]; exact hdj
            refine run_skip ?_
            refine run_seq ?_
            refine run_region ?_
            refine rl_v rfl rfl rfl (ov_load rfl Try.underlying111 rfl rfl (by first | exact hO.cellL 4 rfl rfl)) ?_
            refine rl_v rfl rfl rfl (ov_move rfl rfl) ?_
            refine rl_call callable_77 rfl rfl rfl rfl rfl rfl (ih _ hlt j S' (W ++ [i]) f' T' wv cw _ rfl hj0 h1 hs0 hlk hD hWn1 hrr hO) (fun e46 w47 hp48 => ?_)
            obtain ⟨bb, rfl, hres⟩ := hp48
            refine ⟨_, rfl, ?_⟩
            refine rl_nil ?_
            first | refine run_cond_dec rfl (fun h4 => ?_) (fun h4 => ?_) | refine run_cond rfl (fun h4 => ?_) (fun h4 => ?_)
            · obtain ⟨l, ao', cap', hl', hIl, hOl⟩ := (hres.resolve_left (fun hx => by rw [hx.1] at h4; cases h4)).2
              refine run_seq ?_
              refine run_region ?_
              refine rl_v rfl rfl rfl (ov_assign rfl rfl) ?_
              refine rl_nil ?_
              refine run_ret Try.func77 (res1 Try.results77 rfl) ?_
              exact ⟨true, rfl, .inr ⟨rfl, l, ao', cap', hl', hIl, hOl⟩⟩
            · obtain ⟨S2, f2, T2, wv2, cw2, hO2, hr2, hd2, hi2, hm22, hm20⟩ := (hres.resolve_right (fun hx => by rw [hx.1] at h4; cases h4)).2
              refine run_skip ?_
              refine run_inBlock ?_
              refine run_region ?_
              refine rl_v rfl rfl rfl (ov_add rfl rfl rfl (by omega)) ?_
              refine rl_v rfl rfl rfl (ov_move rfl rfl) ?_
              refine rl_nil ?_
              refine Run.use (ih11 (j + 1) (S2) (f2) (T2) (wv2) (cw2) _ ?_ ?_) (And.intro (by first | with_reducible rfl | exact slot_int rfl (by first | omega) | rfl) (And.intro rfl (And.intro rfl (And.intro rfl (And.intro rfl (And.intro rfl (And.intro rfl trivial)))))))
              · first | omega | (dsimp only; omega)
              · exact ⟨by omega, by omega, hd2, fun v v0 v1 q => hm22 v v0 v1 (hm2 v v0 v1 q), fun v v0 v1 q => hm0 v v0 v1 (hm20 v v0 v1 q), fun u u0 u1 q => (by omega : u = j ∨ u < j).elim (fun e => by rw [e]; exact hi2) (fun e => hm22 u u0 (by omega) (hdone u u0 e q)), hr2, hO2⟩
    · obtain ⟨aw, pw, rfl⟩ := hrr.val
      refine run_exit rfl ?_
      refine run_seq ?_
      refine run_region ?_
      refine rl_v rfl rfl rfl (ov_load rfl Try.underlying55 rfl rfl (by first | exact hO.cellL 3 rfl rfl)) ?_
      refine rl_v rfl rfl rfl (ov_move rfl rfl) ?_
      refine rl_v rfl rfl rfl (ov_index1 rfl Try.underlying55 (by kernel_rfl) rfl rfl ⟨by omega, by omega⟩ (by first | rfl | exact hga (by omega) | exact hra _ (by omega) (by omega) (by omega))) ?_
      refine rl_ow rfl (ow_storeI rfl rfl (by kernel_rfl) hO 2 rfl rfl ⟨by omega, by omega⟩ rfl) ?_
      rintro _ w49 ⟨rfl, hO50, hs51⟩
      have hcap := hrr.cap
      refine rl_nil ?_
      refine run_seq ?_
      refine run_region ?_
      refine rl_v rfl rfl rfl (ov_load rfl Try.underlying55 rfl rfl (by first | exact hO50.cellL 1 rfl rfl)) ?_
      refine rl_v rfl rfl rfl (ov_load rfl Try.underlying55 rfl rfl (by first | exact hO50.cellL 1 rfl rfl)) ?_
      refine rl_v rfl rfl rfl (ov_len rfl Try.underlying55 rfl) ?_
      refine rl_v rfl rfl rfl (ov_sub rfl rfl rfl (by omega)) ?_
      refine rl_v rfl rfl rfl (ov_sliceH (W.length) (s := 1) rfl Try.underlying55 (by kernel_rfl) rfl rfl (by first | rfl | omega) (by omega)) ?_
      refine rl_ow rfl (ow_storeL rfl rfl (by kernel_rfl) hO50 1 rfl rfl rfl rfl rfl) ?_
      rintro _ w52 ⟨rfl, hO53, hs54⟩
      have hdE := hD.pop (fun u u0 u1 q => hdone u u0 (by omega) q)
      have hrE : IRow (.slice aw W.length pw) 3 W.length (fun j => .int .i64 (lF W j)) cw := (hrr.cut (by omega)).congr fun q q0 q1 => by rw [lF_left q0 q1]
      refine rl_nil ?_
      refine run_seq ?_
      refine run_region ?_
      refine rl_v rfl rfl rfl (ov_assign rfl rfl) ?_
      refine rl_nil ?_
      refine run_ret Try.func77 (res1 Try.results77 rfl) ?_
      exact ⟨false, rfl, .inl ⟨rfl, upd S' i 2, upd f' i T', T' + 1, .slice aw W.length pw, cw, hO53, hrE, hdE, upd_same _ _ _, fun v v0 v1 q => by unfold upd; split; rfl; exact hm2 v v0 v1 q, fun v v0 v1 q => by unfold upd at q; split at q; omega; exact (hm0 v v0 v1 q).1⟩⟩
end Go.Proofs.Ytiambddcpflkhaa
