import Derived.Test.YtijffdhailddoaaSeN
set_option maxRecDepth 100000
namespace Go.Proofs.Ytijffdhailddoaa
open Go.RowKit Go.Proofs
section
variable {P : Program} {f N : Nat} {o : Oper} {ops : Array Oper} {rest : List Oper} {k : List Item} {F : Fr} {w : World} {R : Ending → World → Prop}
end
theorem nodeCell {A : WA} {X : MW} {K : WC} {B j : Nat} {w0 w : World} {H : List (Option Blk)} {n : Int} {q : Nat} (hO : Own B w0 w H) (hw : H[j]? = some (some (lch A.W 72 (wcells A X K)))) (hn : n = 0 ∨ n = 1 ∨ n = 2) (hq : q = 5 + n.toNat) : w.cell? ⟨A.W, q, none⟩ = some (nodeV A n) := by
 subst hq
 rcases hn with rfl | rfl | rfl
 ·exact hO.cellL j hw (off := 5) rfl
 ·exact hO.cellL j hw (off := 6) rfl
 ·exact hO.cellL j hw (off := 7) rfl
theorem node_any (A : WA) (X : MW) (K : WC) (n : Int) (j B : Nat) (H : List (Option Blk)) (w0 w : World) (hn : n = 0 ∨ n = 1 ∨ n = 2) (hO : Own B w0 w H) (hw : H[j]? = some (some (lch A.W 72 (wcells A X K)))) :
  Calls Try.prog 40 #[ptr A.W, iv n] w fun e w' => e = .returned (.tuple #[nodeV A n, iv 0]) ∧ Own B w0 w' H := by
 refine calls_of_run (F := [(0, _), (1, _)]) Try.func40 rfl Try.ntmps40 rfl rfl <| run_seq <| run_region <| rl_v rfl rfl rfl (ov_assign rfl rfl) <| rl_v rfl rfl rfl (ov_assign rfl rfl) <| rl_nil <| run_seq <| run_seq <| run_region <| rl_v rfl rfl rfl (ov_move rfl rfl) <| rl_v rfl rfl rfl (ov_ptrnil rfl Try.underlying34 rfl) <| rl_nil <| run_cond_f rfl <| run_skip <| run_seq <| run_seq <| run_region <| rl_v rfl rfl rfl (ov_move rfl rfl) <| rl_v rfl rfl rfl (ov_lss rfl rfl rfl) <| rl_v rfl rfl rfl (ov_move rfl rfl) ?_
 first | refine rl_split_dec 10 rfl (fun g1 => ?_) (fun g1 => ?_) | refine rl_split 10 rfl (fun g1 => ?_) (fun g1 => ?_)
 ·refine rl_gskip rfl rfl rfl rfl rfl rfl <| rl_gskip rfl rfl rfl rfl rfl rfl <| rl_v rfl rfl rfl (ov_pick_t rfl rfl rfl) <| rl_nil ?_
  exfalso; omega
 ·refine rl_gv rfl rfl rfl rfl rfl (ov_move rfl rfl) <| rl_gv rfl rfl rfl rfl rfl (ov_gtr rfl rfl rfl) <| rl_v rfl rfl rfl (ov_pick_f rfl rfl rfl) <| rl_nil ?_
  first | refine run_cond_dec rfl (fun g2 => ?_) (fun g2n => ?_) | refine run_cond rfl (fun g2 => ?_) (fun g2n => ?_)
  ·exfalso; omega
  ·refine run_skip <| run_seq <| run_region <| rl_v rfl rfl rfl (ov_move rfl rfl) <| rl_v rfl rfl rfl (ov_move rfl rfl) <| rl_v rfl rfl rfl (ov_nil rfl rfl) <| rl_v rfl rfl rfl (ov_fieldS rfl Try.underlying72 rfl (fo := 5) rfl (by kernel_rfl) rfl) ?_
   refine rl_v rfl rfl rfl (ov_indexA1 rfl Try.underlying70 (by kernel_rfl) rfl rfl ⟨by omega, by omega⟩) ?_
   refine rl_v rfl rfl rfl (ov_load rfl Try.underlying69 rfl rfl (by exact nodeCell hO hw hn (by omega))) ?_
   refine rl_v rfl rfl rfl (ov_assign rfl rfl) <| rl_v rfl rfl rfl (ov_assign rfl rfl) <| rl_nil <| run_ret Try.func40 (res2 Try.results40 rfl rfl) ?_
   exact ⟨rfl, hO⟩
theorem storeO (n : Int) (b : Nat) {B : Nat} {H : List (Option Blk)} {w0 w : World} (hO : Own B w0 w H) : Calls Try.prog (fStore n) #[ptr b] w fun e w' => e = .returned (ptr b) ∧ Own B w0 w' H :=
 (store_any n b w).mono fun _ _ h => ⟨h.1, h.2 ▸ hO⟩
theorem ov_isSite {N : Nat} {o : Oper} {F : Fr} {w : World} {x : Operand} {A : WA} {n : Int} (hn : n = 1 ∨ n = 2) (ho : o.op = .typeAssert x 69 80 true) (hx : Fr.ev F x = some (nodeV A n)) : OpV Try.prog N o F w (.tuple #[ptr (A.node n), .bool true]) := by
 have h := ov_assert2 (P := Try.prog) (N := N) (w := w) (z := .pointer none) ho Try.underlying80 rfl (by kernel_rfl) hx
 have e : nty n = 80 := if_neg (by omega)
 rw [if_pos e, e] at h
 simpa using h
theorem site_any (A : WA) (X : MW) (K : WC) (n : Int) (j B : Nat) (H : List (Option Blk)) (w0 w : World) (hn : n = 1 ∨ n = 2) (hO : Own B w0 w H) (hw : H[j]? = some (some (lch A.W 72 (wcells A X K)))) :
  Calls Try.prog 32 #[ptr A.W, iv n] w fun e w' => e = .returned (.tuple #[ptr (A.node n), iv 0]) ∧ Own B w0 w' H := by
 refine calls_of_run (F := [(0, _), (1, _)]) Try.func32 rfl Try.ntmps32 rfl rfl <| run_seq <| run_region <| rl_v rfl rfl rfl (ov_assign rfl rfl) <| rl_v rfl rfl rfl (ov_assign rfl rfl) <| rl_nil <| run_seq <| run_region <| rl_v rfl rfl rfl (ov_move rfl rfl) <| rl_v rfl rfl rfl (ov_move rfl rfl) ?_
 refine rl_call callable_40 rfl rfl rfl rfl rfl rfl (node_any A X K n j B H w0 w (by omega) hO hw) (fun e1 w2 hp3 => ?_)
 obtain ⟨rfl, hO2⟩ := hp3
 refine ⟨_, rfl, ?_⟩
 refine rl_v rfl rfl rfl (ov_move rfl rfl) <| rl_v rfl rfl rfl (ov_extract rfl rfl (by rfl)) ?_
 refine rl_v rfl rfl rfl (ov_extract rfl rfl (by rfl)) ?_
 refine rl_v rfl rfl rfl (ov_assign rfl rfl) <| rl_v rfl rfl rfl (ov_assign rfl rfl) <| rl_nil <| run_seq <| run_seq <| run_region <| rl_v rfl rfl rfl (ov_move rfl rfl) <| rl_v rfl rfl rfl (ov_neq rfl rfl rfl) <| rl_nil ?_
 first | refine run_cond_dec rfl (fun g1 => ?_) (fun g1n => ?_) | refine run_cond rfl (fun g1 => ?_) (fun g1n => ?_)
 ·exfalso; exact g1 rfl
 ·refine run_skip <| run_seq <| run_region <| rl_v rfl rfl rfl (ov_move rfl rfl) <| rl_v rfl rfl rfl (ov_isSite (A := A) hn rfl (by rfl)) ?_
  refine rl_v rfl rfl rfl (ov_move rfl rfl) <| rl_v rfl rfl rfl (ov_extract rfl rfl (by rfl)) ?_
  refine rl_v rfl rfl rfl (ov_extract rfl rfl (by rfl)) ?_
  refine rl_v rfl rfl rfl (ov_assign rfl rfl) <| rl_v rfl rfl rfl (ov_assign rfl rfl) <| rl_nil <| run_seq <| run_seq <| run_region <| rl_v rfl rfl rfl (ov_move rfl rfl) <| rl_v rfl rfl rfl (ov_not rfl rfl) <| rl_nil ?_
  first | refine run_cond_dec rfl (fun g2 => ?_) (fun g2n => ?_) | refine run_cond rfl (fun g2 => ?_) (fun g2n => ?_)
  ·exfalso; exact Bool.noConfusion g2
  ·refine run_skip <| run_seq <| run_region <| rl_v rfl rfl rfl (ov_move rfl rfl) <| rl_v rfl rfl rfl (ov_assign rfl rfl) <| rl_v rfl rfl rfl (ov_assign rfl rfl) <| rl_nil <| run_ret Try.func32 (res2 Try.results32 rfl rfl) ?_
   exact ⟨rfl, hO2⟩
theorem wup_any (A : WA) (X : MW) (n : Int) (B : Nat) (Pl R : List (Option Blk)) (w0 w : World) (hn : n = 0 ∨ n = 1 ∨ n = 2) (h : WAt B w0 w A X Pl R) :
  Calls Try.prog 24 #[ptr A.W, iv n] w fun e w' => e = .returned (.bool (!(X.lg n).down)) ∧ WAt B w0 w' A X Pl R := by
 obtain ⟨K, N, hO, hK, hPl⟩ := h
 obtain ⟨k, t, rv, rest, hk4, hk, hr, hset, hw2⟩ := hK.node A hn
 refine calls_of_run (F := [(0, _), (1, _)]) Try.func24 rfl Try.ntmps24 rfl rfl <| run_seq <| run_region <| rl_v rfl rfl rfl (ov_assign rfl rfl) <| rl_nil <| run_seq <| run_region <| rl_v rfl rfl rfl (ov_move rfl rfl) <| rl_v rfl rfl rfl (ov_move rfl rfl) ?_
 refine rl_call callable_40 rfl rfl rfl rfl rfl rfl (node_any A X K n 0 B _ w0 w hn hO rfl) (fun e1 w2 hp3 => ?_)
 obtain ⟨rfl, hO2⟩ := hp3
 refine ⟨_, rfl, ?_⟩
 refine rl_v rfl rfl rfl (ov_move rfl rfl) <| rl_v rfl rfl rfl (ov_extract rfl rfl (by rfl)) ?_
 refine rl_v rfl rfl rfl (ov_extract rfl rfl (by rfl)) ?_
 refine rl_v rfl rfl rfl (ov_assign rfl rfl) <| rl_v rfl rfl rfl (ov_assign rfl rfl) <| rl_nil <| run_seq <| run_region <| rl_v rfl rfl rfl (ov_move rfl rfl) <| rl_v rfl rfl rfl (ov_eql rfl rfl rfl) <| rl_v rfl rfl rfl (ov_move rfl rfl) ?_
 first | refine rl_split_dec 15 rfl (fun g1 => ?_) (fun g1 => ?_) | refine rl_split 15 rfl (fun g1 => ?_) (fun g1 => ?_)
 ·refine rl_gv rfl rfl rfl rfl rfl (ov_move rfl rfl) ?_
  refine rl_ginvoke (cStore n) rfl rfl rfl rfl rfl rfl rfl (mStore n _ _) rfl (storeO n (A.node n) hO2) (fun e5 w6 hp7 => ?_)
  obtain ⟨rfl, hO3⟩ := hp7
  refine ⟨_, rfl, ?_⟩
  refine rl_gv rfl rfl rfl rfl rfl (ov_nil rfl rfl) <| rl_gv rfl rfl rfl rfl rfl (ov_fieldS rfl Try.underlying77 rfl (fo := 3) rfl (by kernel_rfl) rfl) ?_
  refine rl_gv rfl rfl rfl rfl rfl (ov_load rfl Try.underlying4 rfl rfl (by exact hO3.cellL k (hk _) (off := 3) rfl)) ?_
  refine rl_gv rfl rfl rfl rfl rfl (ov_not rfl rfl) <| rl_v rfl rfl rfl (ov_pick_t rfl rfl rfl) <| rl_v rfl rfl rfl (ov_assign rfl rfl) <| rl_nil <| run_ret Try.func24 (res1 Try.results24 rfl) ?_
  exact ⟨rfl, K, N, hO3, hK, hPl⟩
 ·exfalso; exact g1 rfl
def Src (H : List (Option Blk)) (ao : Option Addr) (s m : Nat) (G : Int → List Value) : Prop := ∀ (B : Nat) (w0 w : World), Own B w0 w H → SAt w.heap.size w ao s m G
theorem Src.cons {H : List (Option Blk)} {x : Option Blk} {ao : Option Addr} {s m : Nat} {G : Int → List Value} (h : Src H ao s m G) : Src (x :: H) ao s m G := fun B w0 w hO => h B w0 w hO.tail
theorem Src.of_row {H : List (Option Blk)} {ao : Option Addr} {E : TypeId} {s n m cap k : Nat} {G : Int → List Value} {c : Option Blk} (h : SRow (.slice ao m cap) E s n G c) (hk : H[k]? = some c) : Src H ao s n G := by
 intro B w0 w ho
 rcases h with ⟨h1, rfl, _⟩ | ⟨b, cap', g, h1, h2, h3, rfl, h5⟩
 ·have := RAt.nil w.heap.size w ao (fun j => (G ((j / s : Nat) : Int)).getD (j % s) undef)
  rw [← Nat.zero_mul s] at this
  exact this
 ·cases h1
  exact ((ho.reads k hk (n * s) (Nat.mul_le_mul_right s h2)).congr (fun i hi => h5 i hi))
theorem Src.take {H : List (Option Blk)} {ao : Option Addr} {s n m : Nat} {G : Int → List Value} (h : Src H ao s n G) (hm : m ≤ n) : Src H ao s m G := fun B w0 w hO => (h B w0 w hO).take (Nat.mul_le_mul_right s hm)
theorem Src.drop {H : List (Option Blk)} {b off s n i : Nat} {ao' : Option Addr} {G : Int → List Value} (h : Src H (some ⟨b, off, none⟩) s n G) (hs : 0 < s) (hi : i ≤ n) (ha : i < n → ao' = some ⟨b, off + i * s, none⟩) : Src H ao' s (n - i) (fun j => G (j + i)) := fun B w0 w hO => by
 rcases Nat.eq_or_lt_of_le hi with rfl | hlt
 ·rw [Nat.sub_self]
  have := RAt.nil w.heap.size w ao' (fun j => ((fun j => G (j + i)) ((j / s : Nat) : Int)).getD (j % s) undef)
  rw [← Nat.zero_mul s] at this
  exact this
 ·obtain ⟨b', off', h1, h2, h3⟩ := h B w0 w hO
  have hp : 0 < n * s := Nat.mul_pos (by omega) hs
  have e := h1 hp
  simp only [Option.some.injEq, Addr.mk.injEq] at e
  obtain ⟨rfl, rfl, _⟩ := e
  refine ⟨b, off + i * s, fun _ => ha hlt, fun _ => h2 hp, fun j hj => ?_⟩
  have hsum : i * s + j < n * s := by
   have : i * s + (n - i) * s = n * s := by rw [← Nat.add_mul]; congr 1; omega
   omega
  rw [Nat.add_assoc, h3 (i * s + j) hsum]
  have e1 : (i * s + j) / s = j / s + i := by rw [Nat.add_comm, Nat.add_mul_div_right _ _ hs]
  have e2 : (i * s + j) % s = j % s := by rw [Nat.add_comm, Nat.add_mul_mod_self_right]
  show some ((G ((i * s + j) / s : Nat)).getD ((i * s + j) % s) undef) = some ((G (((j / s : Nat) : Int) + i)).getD (j % s) undef)
  rw [e1, e2, Int.natCast_add]
section
variable {P : Program} {N : Nat} {o : Oper} {F : Fr} {w : World} {B : Nat} {w0 : World} {H : List (Option Blk)}
theorem ov_sliceL2 {T E : TypeId} {x l : Operand} {ao : Option Addr} {b off n c s : Nat} {k1 : IntKind} {i : Int} (ho : o.op = .slice T x (some l) none none) (hT : P.underlying T = some (.slice E)) (hs : (P.info? E).map (·.size) = some s)
  (hx : Fr.ev F x = some (.slice ao n c)) (hl : Fr.ev F l = some (.int k1 i)) (hb : 0 ≤ i ∧ i ≤ n) (hao : ao = some ⟨b, off, none⟩) :
  OpV P N o F w (.slice (if c = i.toNat then some ⟨b, off, none⟩ else some ⟨b, off + i.toNat * s, none⟩) (n - i.toNat) (c - i.toNat)) := by
 intro a ha
 subst hao
 cases hq : P.info? E with
 | none => simp [hq] at hs
 | some q =>
  have hs' : q.size = s := by simpa [hq] using hs
  unfold execOp
  rw [ho]
  by_cases h3 : c = i.toNat
  ·simp [Instr.sliceAt, Instr.slice, Instr.sliceBounds, Instr.sliceBound, asIntOf, run_underlying hT, ha.ev hx, ha.ev hl, Result.andThen, hb, sizeOf, typeInfo, hq, hs', h3, Addr.add_mid]
  ·simp [Instr.sliceAt, Instr.slice, Instr.sliceBounds, Instr.sliceBound, asIntOf, run_underlying hT, ha.ev hx, ha.ev hl, Result.andThen, hb, sizeOf, typeInfo, hq, hs', h3, Addr.add_mid]
end
theorem cloneM_any (ao : Option Addr) (m cp B : Nat) (G : Int → List Value) (H : List (Option Blk)) (w0 w : World) (hO : Own B w0 w H) (hs : Src H ao 4 m G) (h1 : ∀ j : Int, 0 ≤ j → j < m → (G j).length = 4 ∧ (G j).all (·.oneCell') = true) (hm : m ≤ 4000000000000) :
  Calls Try.prog 26 #[.slice ao m cp] w fun e w' => ∃ v c, e = .returned v ∧ SRow v 88 4 m G c ∧ Own B w0 w' (c :: H) := by
 refine calls_of_run (F := [(0, _)]) Try.func26 rfl Try.ntmps26 rfl rfl <| run_seq <| run_region <| rl_v rfl rfl rfl (ov_assign rfl rfl) <| rl_nil <| run_seq <| run_seq <| run_region <| rl_v rfl rfl rfl (ov_move rfl rfl) <| rl_v rfl rfl rfl (ov_isnil rfl Try.underlying43 rfl) <| rl_nil ?_
 first | refine run_cond_dec rfl (fun g1 => ?_) (fun g1n => ?_) | refine run_cond rfl (fun g1 => ?_) (fun g1n => ?_)
 ·have hm0 : m = 0 := by
   rcases Nat.eq_zero_or_pos m with h | h
   ·exact h
   ·obtain ⟨b, off, h2, _⟩ := hs B w0 w hO
    rw [h2 (by omega)] at g1
    exact absurd g1 Bool.noConfusion
  subst hm0
  refine run_seq <| run_region <| rl_v rfl rfl rfl (ov_assign rfl rfl) <| rl_nil <| run_ret Try.func26 (res1 Try.results26 rfl) ?_
  exact ⟨_, none, rfl, SRow.nil _ _ _, hO.nil_cons⟩
 ·refine run_skip <| run_seq <| run_region <| rl_ow rfl (ow_empty rfl rfl rfl Try.underlying43 info_88 hO) ?_
  rintro _ w1 ⟨v5, c5, rfl, hO2, hR5, hs3⟩
  refine rl_v rfl rfl rfl (ov_move rfl rfl) <| rl_ow rfl (ow_appSR (G := fun _ => []) rfl rfl rfl Try.underlying43 info_88 rfl rfl hO2 0 (hR5 _) rfl rfl rfl (hs.cons B w0 w1 hO2) h1 ⟨by omega, by omega⟩) ?_
  rintro _ w4 ⟨v7, c7, rfl, hO5, hr7, hs6⟩
  refine rl_v rfl rfl rfl (ov_assign rfl rfl) <| rl_nil <| run_ret Try.func26 (res1 Try.results26 rfl) ?_
  exact ⟨v7, c7, rfl, by rw [Nat.zero_add] at hr7; exact hr7.congr fun i h0 h1 => by unfold joinF; rw [if_neg (by omega)]; exact congrArg G (by omega), hO5⟩
theorem resW2 {P : Program} {N : Nat} {F : Fr} {w : World} {fn : Func} {t u ty : Nat} {b B : Nat} {t2 : TypeId} {w0 : World} {H : List (Option Blk)} {dd : TypeDesc} {vs : List Value} {x : Value} (hr : fn.results = #[.cell t ty, .tmp u]) (hv : Fr.get F t = some (.pointer (some ⟨b, 0, none⟩))) (hx : Fr.get F u = some x)
  (hT : P.underlying ty = some dd) (hd : dd.isRow = true) (hi : (P.info? ty).map (·.size) = some vs.length) (hO : Own B w0 w H) (k : Nat) (hk : H[k]? = some (some (lch b t2 vs))) : ∀ a, Holds N F a → (results fn a.tmps).run P w = .ok (.tuple #[.agg vs.toArray, x]) w := by
 intro a ha
 have h1 := ha.at_ t _ hv
 have h3 := ha.at_ u _ hx
 have h2 := run_loadVar_mid (P := P) w b 0 ty vs dd (hO.rangeL k hk) hT hd hi
 simp [results, hr, Array.getD_eq_getD_getElem?, h1, h3, asAddr, h2, Result.andThen]
theorem bagRow {X : MW} {K : WC} {N : List (Option Blk)} (hK : WOk X K N) : ∃ ao cap, K.bv = .slice ao X.bag.length cap ∧ X.bag.length ≤ cap ∧ (∃ b, (0 < X.bag.length → ao = some ⟨b, 0, none⟩) ∧ ∀ {B : Nat} {w0 w : World} {H : List (Option Blk)}, Own B w0 w H → K.cb ∈ H → ∀ i : Int, 0 ≤ i → i < X.bag.length → ∀ fo, fo < 4 → w.cell? ⟨b, 0 + i.toNat * 4 + fo, none⟩ = some ((cnt msl Ms.z X.bag i).getD fo undef)) := by
 have hp := PRow.of_row hK.bv (N := [K.cb]) (List.mem_singleton.2 rfl)
 obtain ⟨ao, cap, h1, h2⟩ := hp.val
 rw [h1] at hp
 obtain ⟨b, hb, hr⟩ := hp.open
 exact ⟨ao, cap, h1, h2, b, hb, fun hO hc => hr hO (fun x hx => by rw [List.mem_singleton.1 hx]; exact hc)⟩
theorem bagMem {A : WA} {X : MW} {K : WC} {T : List (Option Blk)} : K.cb ∈ K.M A X ++ T := List.mem_append_left _ (by simp [WC.M])
theorem bagMem1 {A : WA} {X : MW} {K : WC} {T : List (Option Blk)} {x : Option Blk} : K.cb ∈ x :: (K.M A X ++ T) := List.mem_cons_of_mem _ bagMem
theorem message_any (A : WA) (X : MW) (i : Int) (B : Nat) (Pl R : List (Option Blk)) (w0 w : World) (hi : 0 ≤ i ∧ i < X.bag.length) (hb : X.bag.length ≤ 4000000000000) (h : WAt B w0 w A X Pl R) :
  Calls Try.prog 27 #[ptr A.W, iv i] w fun e w' => e = .returned (.tuple #[.agg (msl (X.bag.getD i.toNat Ms.z)).toArray, iv 0]) ∧ WAt B w0 w' A X Pl R := by
 obtain ⟨K, N, hO, hK, hPl⟩ := h
 obtain ⟨ao, cap, hbv, hcap, gb, hga, hrow⟩ := bagRow hK
 have hlen : cnt msl Ms.z X.bag i = msl (X.bag.getD i.toNat Ms.z) := rfl
 refine calls_of_run (F := [(0, _), (1, _)]) Try.func27 rfl Try.ntmps27 rfl rfl <| run_seq <| run_region <| rl_ow rfl (ow_alloc _ rfl rfl rfl zero_88 rfl hO) ?_
 rintro _ w1 ⟨b4, rfl, hO2, hs3⟩
 refine rl_v rfl rfl rfl (ov_assign rfl rfl) <| rl_nil <| run_seq <| run_seq <| run_region <| rl_v rfl rfl rfl (ov_move rfl rfl) <| rl_v rfl rfl rfl (ov_ptrnil rfl Try.underlying34 rfl) <| rl_nil <| run_cond_f rfl <| run_skip <| run_seq <| run_seq <| run_region <| rl_v rfl rfl rfl (ov_move rfl rfl) <| rl_v rfl rfl rfl (ov_lss rfl rfl rfl) <| rl_v rfl rfl rfl (ov_move rfl rfl) ?_
 first | refine rl_split_dec 11 rfl (fun g1 => ?_) (fun g1 => ?_) | refine rl_split 11 rfl (fun g1 => ?_) (fun g1 => ?_)
 ·refine rl_gskip rfl rfl rfl rfl rfl rfl <| rl_gskip rfl rfl rfl rfl rfl rfl <| rl_gskip rfl rfl rfl rfl rfl rfl <| rl_gskip rfl rfl rfl rfl rfl rfl <| rl_gskip rfl rfl rfl rfl rfl rfl <| rl_gskip rfl rfl rfl rfl rfl rfl <| rl_gskip rfl rfl rfl rfl rfl rfl <| rl_v rfl rfl rfl (ov_pick_t rfl rfl rfl) <| rl_nil ?_
  exfalso; omega
 ·refine rl_gv rfl rfl rfl rfl rfl (ov_move rfl rfl) <| rl_gv rfl rfl rfl rfl rfl (ov_move rfl rfl) <| rl_gv rfl rfl rfl rfl rfl (ov_nil rfl rfl) <| rl_gv rfl rfl rfl rfl rfl (ov_fieldS rfl Try.underlying72 rfl (fo := 8) rfl (by kernel_rfl) rfl) ?_
  refine rl_gv rfl rfl rfl rfl rfl (ov_load rfl Try.underlying43 rfl rfl (by exact hO2.cellL 1 rfl (off := 8) (congrArg some hbv))) ?_
  refine rl_gv rfl rfl rfl rfl rfl (ov_len rfl Try.underlying43 rfl) <| rl_gv rfl rfl rfl rfl rfl (ov_geq rfl rfl rfl) <| rl_v rfl rfl rfl (ov_pick_f rfl rfl rfl) <| rl_nil ?_
  first | refine run_cond_dec rfl (fun g2 => ?_) (fun g2n => ?_) | refine run_cond rfl (fun g2 => ?_) (fun g2n => ?_)
  ·exfalso; omega
  ·refine run_skip <| run_seq <| run_region <| rl_v rfl rfl rfl (ov_move rfl rfl) <| rl_v rfl rfl rfl (ov_nil rfl rfl) <| rl_v rfl rfl rfl (ov_fieldS rfl Try.underlying72 rfl (fo := 8) rfl (by kernel_rfl) rfl) ?_
   refine rl_v rfl rfl rfl (ov_load rfl Try.underlying43 rfl rfl (by exact hO2.cellL 1 rfl (off := 8) (congrArg some hbv))) ?_
   refine rl_v rfl rfl rfl (ov_move rfl rfl) <| rl_v rfl rfl rfl (ov_index rfl Try.underlying43 (by kernel_rfl) (s := 4) rfl rfl ⟨by omega, by omega⟩ (by exact (hga (by omega)))) ?_
   refine rl_v rfl rfl rfl (ov_loadE rfl Try.underlying88 rfl (by kernel_rfl) rfl ⟨by omega, by omega⟩ rfl (hrow hO2 bagMem1)) ?_
   refine rl_ow rfl (ow_storeW rfl rfl (by kernel_rfl) hO2 0 rfl rfl (by rfl) rfl (by rfl)) ?_
   rintro _ w5 ⟨rfl, hO6, hs7⟩
   refine rl_v rfl rfl rfl (ov_assign rfl rfl) <| rl_nil <| run_ret Try.func27 (resW2 Try.results27 rfl rfl Try.underlying88 rfl (by kernel_rfl) hO6 0 rfl) ?_
   exact ⟨rfl, (WAt.push hO6 hK hPl).drop⟩
theorem cnt_len {l : List Ms} {j : Int} : (cnt msl Ms.z l j).length = 4 ∧ (cnt msl Ms.z l j).all (·.oneCell') = true := ⟨rfl, rfl⟩
theorem drop_cnt {l : List Ms} {i : Nat} (hi : i < l.length) (j : Int) (h0 : 0 ≤ j) (_ : j < (i + (l.length - (i + 1)) : Nat)) :
  joinF (cnt msl Ms.z l) i (fun j => cnt msl Ms.z l (j + ((i + 1 : Nat) : Int))) j = cnt msl Ms.z (l.take i ++ l.drop (i + 1)) j := by
 unfold joinF cnt
 by_cases h : j < i
 ·rw [if_pos h]
  congr 1
  have h2 : j.toNat < i := by omega
  simp [List.getD_eq_getElem?_getD, List.getElem?_append, show j.toNat < l.length by omega, show j.toNat < min i l.length by omega]
 ·rw [if_neg h]
  show msl (l.getD (j - (i : Int) + ((i + 1 : Nat) : Int)).toNat Ms.z) = msl _
  congr 1
  have e : (j - (i : Int) + ((i + 1 : Nat) : Int)).toNat = j.toNat + 1 := by omega
  rw [e]
  have h2 : ¬ j.toNat < i := by omega
  simp only [List.getD_eq_getElem?_getD, List.getElem?_append, List.length_take, List.getElem?_drop]
  rw [if_neg (by omega)]
  congr 2
  omega
theorem dropped {B i : Nat} {w0 w : World} {A : WA} {X : MW} {K : WC} {N R Pl : List (Option Blk)} {v : Value} {c : Option Blk} (hK : WOk X K N) (hPl : ∀ x ∈ Pl, x ∈ N) (hi : i < X.bag.length) 
  (hr : SRow v 88 4 (i + (X.bag.length - ((i : Int) + 1).toNat)) (joinF (cnt msl Ms.z X.bag) i fun j => cnt msl Ms.z X.bag (j + ((i + 1 : Nat) : Int))) c)
  (hO : Own B w0 w (c :: some (lch A.W 72 [iv X.mem, iv X.pat, .slice none 0 0, .slice none 0 0, K.dv, nodeV A 0, nodeV A 1, nodeV A 2, v]) :: some (lch A.C 79 (lcells K.rc X.c [ptr A.W, .map (some K.mb)])) ::
   some (lch A.S1 83 (lcells K.r1 X.s1 [ptr A.W, iv 1, K.v1])) :: some (lch A.S2 83 (lcells K.r2 X.s2 [ptr A.W, iv 2, K.v2])) :: some (mch K.mb K.L) :: K.cb :: (N ++ R))) : WAt B w0 w A (X.dropAt i) Pl R := by
 refine ⟨{ K with bv := v, cb := c }, N, ?_, { hK with bv := ?_ }, hPl⟩
 ·exact (hO.sub (.cons_cons _ (.cons_cons _ (.cons_cons _ (.cons_cons _ (.cons_cons _ (.cons_cons _ (.cons _ (.refl _))))))))).perm (List.perm_middle (l₁ := [_, _, _, _, _])).symm
 ·have e : (X.dropAt i).bag = X.bag.take i ++ X.bag.drop (i + 1) := rfl
  have hl : (X.dropAt i).bag.length = i + (X.bag.length - ((i : Int) + 1).toNat) := by rw [e]; simp; omega
  rw [hl]
  exact hr.congr fun j h0 h1 => drop_cnt hi j h0 (by omega)
theorem drop_any (A : WA) (X : MW) (i : Nat) (B : Nat) (Pl R : List (Option Blk)) (w0 w : World) (hi : i < X.bag.length) (hb : X.bag.length ≤ 4000000000000) (h : WAt B w0 w A X Pl R) :
  Calls Try.prog 28 #[ptr A.W, iv i] w fun e w' => e = .returned (.tuple #[]) ∧ WAt B w0 w' A (X.dropAt i) Pl R := by
 obtain ⟨K, N, hO, hK, hPl⟩ := h
 obtain ⟨ao, cap, hbv, hcap, gb, hga, hrow⟩ := bagRow hK
 have hbg := hK.bv
 rw [hbv] at hbg
 have hsrc : Src (K.M A X ++ (N ++ R)) ao 4 X.bag.length (cnt msl Ms.z X.bag) := Src.of_row hbg (k := 5) rfl
 have hao := hga (by omega)
 have hsrc2 : Src (K.M A X ++ (N ++ R)) (if cap = ((i : Int) + 1).toNat then some ⟨gb, 0, none⟩ else some ⟨gb, 0 + ((i : Int) + 1).toNat * 4, none⟩) 4 (X.bag.length - ((i : Int) + 1).toNat) (fun j => cnt msl Ms.z X.bag (j + ((i + 1 : Nat) : Int))) := by
  have e : ((i : Int) + 1).toNat = i + 1 := by omega
  rw [e]
  rw [hao] at hsrc
  exact hsrc.drop (i := i + 1) (by decide) (by omega) (fun h => by rw [if_neg (by omega)])
 refine calls_of_run (F := [(0, _), (1, _)]) Try.func28 rfl Try.ntmps28 rfl rfl <| run_held (fun w' => Own B w0 w' ([])) mixed ?_
 have hO2 := hO.drew
 generalize World.drew w = w1 at hO2 ⊢
 have hS3 : Own B w0 w1 ([]) := by exact hO2.sub (List.nil_sublist _)
 refine rh_v 0 rfl (by kernel_rfl) rfl rfl rfl hS3 (fun _ hS => ov_move rfl rfl) ?_
 refine rh_v 1 rfl (by kernel_rfl) rfl rfl rfl hS3 (fun _ hS => ov_move rfl rfl) ?_
 refine rh_v 2 rfl (by kernel_rfl) rfl rfl rfl hS3 (fun _ hS => ov_nil rfl rfl) ?_
 refine rh_v 3 rfl (by kernel_rfl) rfl rfl rfl hS3 (fun _ hS => ov_fieldS rfl Try.underlying72 rfl (fo := 8) rfl (by kernel_rfl) rfl) ?_
 refine rh_v 5 rfl (by kernel_rfl) rfl rfl rfl hS3 (fun _ hS => ov_move rfl rfl) ?_
 refine rh_v 8 rfl (by kernel_rfl) rfl rfl rfl hS3 (fun _ hS => ov_move rfl rfl) ?_
 refine rh_v 9 rfl (by kernel_rfl) rfl rfl rfl hS3 (fun _ hS => ov_nil rfl rfl) ?_
 refine rh_v 10 rfl (by kernel_rfl) rfl rfl rfl hS3 (fun _ hS => ov_fieldS rfl Try.underlying72 rfl (fo := 8) rfl (by kernel_rfl) rfl) ?_
 refine rh_v 12 rfl (by kernel_rfl) rfl rfl rfl hS3 (fun _ hS => ov_move rfl rfl) ?_
 refine rh_v 13 rfl (by kernel_rfl) rfl rfl rfl hS3 (fun _ hS => ov_add rfl rfl rfl (by omega)) ?_
 refine rh_any2 4 11 (by kernel_rfl) ?_ ?_
 ·refine rc_op rfl rfl (ow_v rfl rfl (ov_load rfl Try.underlying43 rfl rfl (by exact hO2.cellL 0 rfl (off := 8) (congrArg some hbv)))) ?_
  rintro _ _ ⟨rfl, hw4⟩
  replace hw4 := hw4.symm; subst hw4
  refine ⟨hS3, ?_⟩
  refine rh_v 6 rfl (by kernel_rfl) rfl rfl rfl hS3 (fun _ hS => ov_sliceH (i) (s := 4) rfl Try.underlying43 (by kernel_rfl) rfl rfl (by rfl) (by omega)) ?_
  refine rh_any2 7 11 (by kernel_rfl) ?_ ?_
  ·refine rc_op rfl rfl (ow_call2 callable_26 rfl rfl rfl rfl rfl (cloneM_any ao i cap B (cnt msl Ms.z X.bag) _ w0 w1 hO2 (hsrc.take (by omega)) (fun _ _ _ => cnt_len) (by omega)) (by intro e w' hp; obtain ⟨v, c, rfl, hr, hO2⟩ := hp; exact ⟨_, rfl⟩)) ?_
   rintro _ w7 ⟨_, v5, he8, rfl, hp6⟩
   obtain ⟨v, c, rfl, hr, hO2⟩ := hp6
   injection he8 with he8; subst he8
   have hS9 : Own B w0 w7 ([]) := by exact hO2.sub (List.nil_sublist _)
   refine ⟨hS9, ?_⟩
   refine rh_any1 11 (by kernel_rfl) ?_
   refine rc_op rfl rfl (ow_v rfl rfl (ov_load rfl Try.underlying43 rfl rfl (by exact hO2.cellL 1 rfl (off := 8) (congrArg some hbv)))) ?_
   rintro _ _ ⟨rfl, hw10⟩
   replace hw10 := hw10.symm; subst hw10
   refine ⟨hS9, ?_⟩
   refine rh_v 14 rfl (by kernel_rfl) rfl rfl rfl hS9 (fun _ hS => ov_sliceL2 rfl Try.underlying43 (by kernel_rfl) (s := 4) rfl rfl ⟨by omega, by omega⟩ hao) ?_
   refine rh_any1 15 (by kernel_rfl) ?_
   refine rc_op rfl rfl (ow_appSR rfl rfl rfl Try.underlying43 info_88 rfl rfl hO2 0 hr rfl rfl rfl (hsrc2.cons B w0 w7 hO2) (fun _ _ _ => cnt_len) ⟨by omega, by omega⟩) ?_
   rintro _ w11 ⟨v7, c7, rfl, hO12, hr7, hs13⟩
   have hS14 : Own B w0 w11 ([]) := by exact hO12.sub (List.nil_sublist _)
   refine ⟨hS14, ?_⟩
   obtain ⟨a7, p7, rfl⟩ := hr7.val
   refine rh_v 16 rfl (by kernel_rfl) rfl rfl rfl hS14 (fun _ hS => ov_nil rfl rfl) ?_
   refine rh_v 17 rfl (by kernel_rfl) rfl rfl rfl hS14 (fun _ hS => ov_fieldS rfl Try.underlying72 rfl (fo := 8) rfl (by kernel_rfl) rfl) ?_
   refine rh_any1 18 (by kernel_rfl) ?_
   refine rc_op rfl rfl (ow_storeL rfl rfl (by kernel_rfl) hO12 1 rfl rfl rfl rfl rfl) ?_
   rintro _ w15 ⟨rfl, hO16, hs17⟩
   have hS18 : Own B w0 w15 ([]) := by exact hO16.sub (List.nil_sublist _)
   refine ⟨hS18, ?_⟩
   refine rh_done (by kernel_rfl) ?_
   refine run_end Try.func28 (res0 Try.results28) ?_
   exact ⟨rfl, dropped hK hPl hi hr7 hO16⟩
  ·refine rc_op rfl rfl (ow_v rfl rfl (ov_load rfl Try.underlying43 rfl rfl (by exact hO2.cellL 0 rfl (off := 8) (congrArg some hbv)))) ?_
   rintro _ _ ⟨rfl, hw19⟩
   replace hw19 := hw19.symm; subst hw19
   refine ⟨hS3, ?_⟩
   refine rh_v 14 rfl (by kernel_rfl) rfl rfl rfl hS3 (fun _ hS => ov_sliceL2 rfl Try.underlying43 (by kernel_rfl) (s := 4) rfl rfl ⟨by omega, by omega⟩ hao) ?_
   refine rh_any1 7 (by kernel_rfl) ?_
   refine rc_op rfl rfl (ow_call2 callable_26 rfl rfl rfl rfl rfl (cloneM_any ao i cap B (cnt msl Ms.z X.bag) _ w0 w1 hO2 (hsrc.take (by omega)) (fun _ _ _ => cnt_len) (by omega)) (by intro e w' hp; obtain ⟨v, c, rfl, hr, hO2⟩ := hp; exact ⟨_, rfl⟩)) ?_
   rintro _ w22 ⟨_, v20, he23, rfl, hp21⟩
   obtain ⟨v, c, rfl, hr, hO2⟩ := hp21
   injection he23 with he23; subst he23
   have hS24 : Own B w0 w22 ([]) := by exact hO2.sub (List.nil_sublist _)
   refine ⟨hS24, ?_⟩
   refine rh_any1 15 (by kernel_rfl) ?_
   refine rc_op rfl rfl (ow_appSR rfl rfl rfl Try.underlying43 info_88 rfl rfl hO2 0 hr rfl rfl rfl (hsrc2.cons B w0 w22 hO2) (fun _ _ _ => cnt_len) ⟨by omega, by omega⟩) ?_
   rintro _ w25 ⟨v7, c7, rfl, hO26, hr7, hs27⟩
   have hS28 : Own B w0 w25 ([]) := by exact hO26.sub (List.nil_sublist _)
   refine ⟨hS28, ?_⟩
   obtain ⟨a7, p7, rfl⟩ := hr7.val
   refine rh_v 16 rfl (by kernel_rfl) rfl rfl rfl hS28 (fun _ hS => ov_nil rfl rfl) ?_
   refine rh_v 17 rfl (by kernel_rfl) rfl rfl rfl hS28 (fun _ hS => ov_fieldS rfl Try.underlying72 rfl (fo := 8) rfl (by kernel_rfl) rfl) ?_
   refine rh_any1 18 (by kernel_rfl) ?_
   refine rc_op rfl rfl (ow_storeL rfl rfl (by kernel_rfl) hO26 1 rfl rfl rfl rfl rfl) ?_
   rintro _ w29 ⟨rfl, hO30, hs31⟩
   have hS32 : Own B w0 w29 ([]) := by exact hO30.sub (List.nil_sublist _)
   refine ⟨hS32, ?_⟩
   refine rh_done (by kernel_rfl) ?_
   refine run_end Try.func28 (res0 Try.results28) ?_
   exact ⟨rfl, dropped hK hPl hi hr7 hO30⟩
 ·refine rc_op rfl rfl (ow_v rfl rfl (ov_load rfl Try.underlying43 rfl rfl (by exact hO2.cellL 0 rfl (off := 8) (congrArg some hbv)))) ?_
  rintro _ _ ⟨rfl, hw33⟩
  replace hw33 := hw33.symm; subst hw33
  refine ⟨hS3, ?_⟩
  refine rh_v 14 rfl (by kernel_rfl) rfl rfl rfl hS3 (fun _ hS => ov_sliceL2 rfl Try.underlying43 (by kernel_rfl) (s := 4) rfl rfl ⟨by omega, by omega⟩ hao) ?_
  refine rh_any1 4 (by kernel_rfl) ?_
  refine rc_op rfl rfl (ow_v rfl rfl (ov_load rfl Try.underlying43 rfl rfl (by exact hO2.cellL 0 rfl (off := 8) (congrArg some hbv)))) ?_
  rintro _ _ ⟨rfl, hw34⟩
  replace hw34 := hw34.symm; subst hw34
  refine ⟨hS3, ?_⟩
  refine rh_v 6 rfl (by kernel_rfl) rfl rfl rfl hS3 (fun _ hS => ov_sliceH (i) (s := 4) rfl Try.underlying43 (by kernel_rfl) rfl rfl (by rfl) (by omega)) ?_
  refine rh_any1 7 (by kernel_rfl) ?_
  refine rc_op rfl rfl (ow_call2 callable_26 rfl rfl rfl rfl rfl (cloneM_any ao i cap B (cnt msl Ms.z X.bag) _ w0 w1 hO2 (hsrc.take (by omega)) (fun _ _ _ => cnt_len) (by omega)) (by intro e w' hp; obtain ⟨v, c, rfl, hr, hO2⟩ := hp; exact ⟨_, rfl⟩)) ?_
  rintro _ w37 ⟨_, v35, he38, rfl, hp36⟩
  obtain ⟨v, c, rfl, hr, hO2⟩ := hp36
  injection he38 with he38; subst he38
  have hS39 : Own B w0 w37 ([]) := by exact hO2.sub (List.nil_sublist _)
  refine ⟨hS39, ?_⟩
  refine rh_any1 15 (by kernel_rfl) ?_
  refine rc_op rfl rfl (ow_appSR rfl rfl rfl Try.underlying43 info_88 rfl rfl hO2 0 hr rfl rfl rfl (hsrc2.cons B w0 w37 hO2) (fun _ _ _ => cnt_len) ⟨by omega, by omega⟩) ?_
  rintro _ w40 ⟨v7, c7, rfl, hO41, hr7, hs42⟩
  have hS43 : Own B w0 w40 ([]) := by exact hO41.sub (List.nil_sublist _)
  refine ⟨hS43, ?_⟩
  obtain ⟨a7, p7, rfl⟩ := hr7.val
  refine rh_v 16 rfl (by kernel_rfl) rfl rfl rfl hS43 (fun _ hS => ov_nil rfl rfl) ?_
  refine rh_v 17 rfl (by kernel_rfl) rfl rfl rfl hS43 (fun _ hS => ov_fieldS rfl Try.underlying72 rfl (fo := 8) rfl (by kernel_rfl) rfl) ?_
  refine rh_any1 18 (by kernel_rfl) ?_
  refine rc_op rfl rfl (ow_storeL rfl rfl (by kernel_rfl) hO41 1 rfl rfl rfl rfl rfl) ?_
  rintro _ w44 ⟨rfl, hO45, hs46⟩
  have hS47 : Own B w0 w44 ([]) := by exact hO45.sub (List.nil_sublist _)
  refine ⟨hS47, ?_⟩
  refine rh_done (by kernel_rfl) ?_
  refine run_end Try.func28 (res0 Try.results28) ?_
  exact ⟨rfl, dropped hK hPl hi hr7 hO45⟩
end Go.Proofs.Ytijffdhailddoaa
