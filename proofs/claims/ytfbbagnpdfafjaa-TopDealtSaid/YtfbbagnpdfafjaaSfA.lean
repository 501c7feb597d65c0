import Derived.Test.YtfbbagnpdfafjaaSeZ
set_option maxRecDepth 100000
namespace Go.Proofs.Ytfbbagnpdfafjaa
open Go.RowKit Go.Proofs
def BadP (g : Int → Int) (n : Nat) : Prop := ∃ i : Int, 0 ≤ i ∧ i < n ∧ (g i < 0 ∨ 1000000000000 < g i)
noncomputable instance (g : Int → Int) (n : Nat) : Decidable (BadP g n) := Classical.propDecidable _
theorem wrong_any (x : Int) (w : World) : Calls Try.prog 99 #[iv x] w fun e w' => e = .returned (.bool (decide (x < 0 ∨ 1000000000000 < x))) ∧ w' = w := by
 refine calls_of_run (F := [(0, _)]) Try.func99 rfl Try.ntmps99 rfl rfl ?_
 have hO0 := Own.init w
 refine run_seq <| run_region <| rl_v rfl rfl rfl (ov_assign rfl rfl) <| rl_nil <| run_seq <| run_region_join 2 (.bool (decide (x < 0 ∨ 1000000000000 < x))) [] (fun hk1 => ?_) ?_
 ·refine rl_v rfl rfl rfl (ov_move rfl rfl) <| rl_v rfl rfl rfl (ov_lss rfl rfl rfl) <| rl_v rfl rfl rfl (ov_move rfl rfl) ?_
  first | refine rl_split_dec 5 rfl (fun g1 => ?_) (fun g1 => ?_) | refine rl_split 5 rfl (fun g1 => ?_) (fun g1 => ?_)
  ·refine rl_gskip rfl rfl rfl rfl rfl rfl <| rl_gskip rfl rfl rfl rfl rfl rfl <| rl_v rfl rfl rfl (ov_pick_t rfl rfl rfl) <| rl_v rfl rfl rfl (ov_assign rfl rfl) ?_
   refine rl_nil (hk1 _ (jbt rfl (by omega)) trivial)
  ·refine rl_gv rfl rfl rfl rfl rfl (ov_move rfl rfl) <| rl_gv rfl rfl rfl rfl rfl (ov_gtr rfl rfl rfl) <| rl_v rfl rfl rfl (ov_pick_f rfl rfl rfl) <| rl_v rfl rfl rfl (ov_assign rfl rfl) ?_
   refine rl_nil (hk1 _ (jbd rfl (by omega)) trivial)
 ·show Run _ _ _ _ [(2, _)] _ _
  refine run_ret Try.func99 (res1 Try.results99 rfl) ?_
  exact ⟨rfl, rfl⟩
theorem indexFuncL_any (ao : Option Addr) (n c B : Nat) (g : Int → Int) (H : List (Option Blk)) (w0 w : World) (hO : Own B w0 w H) (hs : SrcI H ao n g) (hn : n ≤ 4000000000000) :
  Calls Try.prog 109 #[.slice ao n c, .func (.func 99) #[] #[]] w fun e w' => ∃ r : Int, e = .returned (iv r) ∧ (0 ≤ r ↔ BadP g n) ∧ w' = w := by
 obtain ⟨gb, go, hga, hrow⟩ := (hs B w0 w hO).open
 refine calls_of_run (F := [(0, _), (1, _)]) Try.func109 rfl Try.ntmps109 rfl rfl ?_
 have hO0 := Own.init w
 refine run_seq <| run_region <| rl_v rfl rfl rfl (ov_assign rfl rfl) <| rl_nil <| run_seq <| run_seq <| run_region <| rl_v rfl rfl rfl (ov_move rfl rfl) <| rl_v rfl rfl rfl (ov_len rfl Try.underlying22 rfl) <| rl_v rfl rfl rfl (ov_move rfl rfl) <| rl_nil <| run_block <| Run.keep [0, 1, 7, 8] (F' := [(0, _), (1, _), (7, _), (8, _)]) rfl <| run_loop1 (fun (k : Int) => [(8, .int .i64 k)]) [0, 1, 7] (fun (k : Int) (w1 : World) => 0 ≤ k ∧ k ≤ n ∧ (∀ i : Int, 0 ≤ i → i < k → ¬ (g i < 0 ∨ 1000000000000 < g i)) ∧ w1 = w) (fun (k : Int) => ((n : Int) - k).toNat) (0) ?_ (And.intro (by exact slot_int rfl (by first | omega)) (And.intro rfl (And.intro rfl (And.intro rfl trivial)))) ?_
 ·exact ⟨by omega, by omega, fun i h0 h1 => by omega, rfl⟩
 intro k w1 hIw1 ih2
 obtain ⟨hk0, hk1, hall, hw⟩ := hIw1
 show Run _ _ _ _ [(8, _), (0, _), (1, _), (7, _)] _ _
 subst hw
 refine run_seq <| run_region <| rl_v rfl rfl rfl (ov_lss rfl rfl rfl) <| rl_nil <| run_seq ?_
 first | refine run_cond_dec rfl (fun h1 => ?_) (fun h1 => ?_) | refine run_cond rfl (fun h1 => ?_) (fun h1 => ?_)
 ·refine run_skip <| run_seq <| run_block <| run_seq <| run_region <| rl_v rfl rfl rfl (ov_move rfl rfl) <| rl_v rfl rfl rfl (ov_assign rfl rfl) <| rl_nil <| run_seq <| run_region <| rl_v rfl rfl rfl (ov_move rfl rfl) <| rl_v rfl rfl rfl (ov_move rfl rfl) <| rl_v rfl rfl rfl (ov_move rfl rfl) <| rl_v rfl rfl rfl (ov_index1 rfl Try.underlying22 (by kernel_rfl) rfl rfl ⟨by omega, by omega⟩ (by exact (hga (by omega)))) ?_
  refine rl_v rfl rfl rfl (ov_load rfl Try.underlying2 rfl rfl (by exact hrow _ (Below.refl _ _) k (by omega) (by omega))) ?_
  refine rl_call callable_99 rfl rfl rfl rfl rfl rfl (wrong_any (g k) w1) (fun e3 w4 hp5 => ?_)
  obtain ⟨rfl, hw2⟩ := hp5
  refine ⟨_, rfl, ?_⟩
  subst hw2
  refine rl_nil ?_
  first | refine run_cond_dec rfl (fun h2 => ?_) (fun h2 => ?_) | refine run_cond rfl (fun h2 => ?_) (fun h2 => ?_)
  ·refine run_seq <| run_region <| rl_v rfl rfl rfl (ov_move rfl rfl) <| rl_v rfl rfl rfl (ov_assign rfl rfl) <| rl_nil <| run_ret Try.func109 (res1 Try.results109 rfl) ?_
   exact ⟨k, rfl, ⟨fun _ => ⟨k, hk0, h1, h2⟩, fun _ => hk0⟩, rfl⟩
  ·refine run_skip <| run_inBlock <| run_region <| rl_v rfl rfl rfl (ov_add rfl rfl rfl (by omega)) ?_
   refine rl_v rfl rfl rfl (ov_move rfl rfl) <| rl_nil ?_
   refine Run.use (ih2 _ _ ?_ ?_) (And.intro (by rfl) (And.intro rfl (And.intro rfl (And.intro rfl trivial))))
   ·first | omega | (dsimp only; omega)
   ·exact ⟨by omega, by omega, fun i h0 h1' => (by omega : i = k ∨ i < k).elim (fun e => by rw [e]; exact h2) (fun e => hall i h0 e), rfl⟩
 ·refine run_exit rfl <| run_seq <| run_region <| rl_v rfl rfl rfl (ov_assign rfl rfl) <| rl_nil <| run_ret Try.func109 (res1 Try.results109 rfl) ?_
  exact ⟨-1, rfl, ⟨fun h => by omega, fun ⟨i, h0, h1', h2⟩ => absurd h2 (hall i h0 (by omega))⟩, rfl⟩
theorem containsFuncL_any (ao : Option Addr) (n c B : Nat) (g : Int → Int) (H : List (Option Blk)) (w0 w : World) (hO : Own B w0 w H) (hs : SrcI H ao n g) (hn : n ≤ 4000000000000) :
  Calls Try.prog 57 #[.slice ao n c, .func (.func 99) #[] #[]] w fun e w' => e = .returned (.bool (decide (BadP g n))) ∧ w' = w := by
 refine calls_of_run (F := [(0, _), (1, _)]) Try.func57 rfl Try.ntmps57 rfl rfl ?_
 have hO0 := Own.init w
 refine run_seq <| run_region <| rl_v rfl rfl rfl (ov_assign rfl rfl) <| rl_nil <| run_seq <| run_region <| rl_v rfl rfl rfl (ov_move rfl rfl) <| rl_v rfl rfl rfl (ov_move rfl rfl) ?_
 refine rl_call callable_109 rfl rfl rfl rfl rfl rfl (indexFuncL_any ao n c B g H w0 w hO hs hn) (fun e1 w2 hp3 => ?_)
 obtain ⟨r, rfl, hr, hw2⟩ := hp3
 refine ⟨_, rfl, ?_⟩
 refine rl_v rfl rfl rfl (ov_geq rfl rfl rfl) <| rl_v rfl rfl rfl (ov_assign rfl rfl) <| rl_nil <| run_ret Try.func57 (res1 Try.results57 rfl) ?_
 exact ⟨by congr 2; exact decide_eq_decide.2 hr, hw2⟩
theorem cloneI_any (ao : Option Addr) (m cp B : Nat) (g : Int → Int) (H : List (Option Blk)) (w0 w : World) (hO : Own B w0 w H) (hs : SrcI H ao m g) (hm : m ≤ 4000000000000) :
  Calls Try.prog 72 #[.slice ao m cp] w fun e w' => ∃ v c, e = .returned v ∧ IRow v 2 m (fun i => iv (g i)) c ∧ Own B w0 w' (c :: H) := by
 refine calls_of_run (F := [(0, _)]) Try.func72 rfl Try.ntmps72 rfl rfl <| run_seq <| run_region <| rl_v rfl rfl rfl (ov_assign rfl rfl) <| rl_nil <| run_seq <| run_seq <| run_region <| rl_v rfl rfl rfl (ov_move rfl rfl) <| rl_v rfl rfl rfl (ov_isnil rfl Try.underlying22 rfl) <| rl_nil ?_
 first | refine run_cond_dec rfl (fun g1 => ?_) (fun g1n => ?_) | refine run_cond rfl (fun g1 => ?_) (fun g1n => ?_)
 ·have hm0 : m = 0 := by
   rcases Nat.eq_zero_or_pos m with h | h
   ·exact h
   ·obtain ⟨b, off, h2, _⟩ := hs B w0 w hO
    rw [h2 (by omega)] at g1
    exact absurd g1 Bool.noConfusion
  subst hm0
  refine run_seq <| run_region <| rl_v rfl rfl rfl (ov_assign rfl rfl) <| rl_nil <| run_ret Try.func72 (res1 Try.results72 rfl) ?_
  exact ⟨_, none, rfl, IRow.nil _ _, hO.nil_cons⟩
 ·refine run_skip <| run_seq <| run_region <| rl_ow rfl (ow_empty rfl rfl rfl Try.underlying22 info_2 hO) ?_
  rintro _ w1 ⟨v5, c5, rfl, hO2, hR5, hs3⟩
  have hr5 : IRow v5 2 0 (fun _ => .int .i64 0) c5 := hR5 _
  refine rl_v rfl rfl rfl (ov_move rfl rfl) <| rl_ow rfl (ow_appS rfl rfl rfl Try.underlying22 info_2 rfl hO2 0 hr5 rfl rfl rfl ((hs B w0 _ hO2.tail)) (fun _ => rfl) ⟨by omega, by omega⟩) ?_
  rintro _ w4 ⟨v7, c7, rfl, hO5, hr7, hs6⟩
  refine rl_v rfl rfl rfl (ov_assign rfl rfl) <| rl_nil <| run_ret Try.func72 (res1 Try.results72 rfl) ?_
  exact ⟨v7, c7, rfl, by rw [Nat.zero_add] at hr7; exact hr7.congr fun i h0 h1 => by unfold joinF; rw [if_neg (by omega)]; exact congrArg (fun j => iv (g j)) (by omega), hO5⟩
theorem ow_storeP {P : Program} {N : Nat} {o : Oper} {F : Fr} {w : World} {B : Nat} {w0 : World} {H : List (Option Blk)} {T : TypeId} {p x : Operand} {b off : Nat} {t : TypeId} {vs us vs2 : List Value} (hd : o.dst = none) (ho : o.op = .store T p x) (hi : (P.info? T).map (·.size) = some us.length)
    (hO : Own B w0 w H) (kk : Nat) (hk : H[kk]? = some (some (lch b t vs))) (hp : Fr.ev F p = some (.pointer (some ⟨b, off, none⟩))) (hl : Nat.ble (off + us.length) vs.length = true) (hx : Fr.ev F x = some (.agg us.toArray)) (h1 : us.all (·.oneCell') = true) (h2 : vs.take off ++ us ++ vs.drop (off + us.length) = vs2) :
    OpW P N o F w (fun F' w' => F' = F ∧ Own B w0 w' (H.set kk (some (lch b t vs2))) ∧ w'.heap.size = w.heap.size) := by
  have hl' := Nat.le_of_ble_eq_true hl
  refine (ow_u (w' := w.setCells b off us) hd (fun a ha => ?_)).mono fun F' w' ⟨e1, e2⟩ => ⟨e1, ?_, by rw [e2]; exact size_setCells _ _ _ _⟩
  · have hrun := run_storeAt_mid (P := P) w b off T us.toArray (fun j hj => by
      have hj' : off + j < vs.length := by have : j < us.length := by simpa using hj
                                           omega
      exact ⟨Option.isSome_iff_exists.2 ⟨_, hO.cell kk hk (off + j) hj'⟩, (hO.get kk hk).frozen (off + j)⟩) (by simpa using hi) (by simpa using h1)
    unfold execOp
    simp only [ho, ha.ev hp, ha.ev hx, Sem.run_bind, hrun, Result.andThen_ok, Sem.run_pure]
  · rw [e2]
    have hkl : kk < H.length := (List.getElem?_eq_some_iff.1 hk).1
    have hlen : vs2.length = vs.length := by rw [← h2]; simp; omega
    have h3 := (hO.storeN us kk hk off).congr kk (x := { (lch b t vs) with f := fun j => if off ≤ j ∧ j < off + us.length then us.getD (j - off) undef else (lch b t vs).f j }) (by simp [hkl]) (fun j => vs2.getD j undef) (fun j hj => by
      have hj2 : j < vs.length := hj
      rw [← h2]
      show (if off ≤ j ∧ j < off + us.length then us.getD (j - off) undef else vs.getD j undef) = _
      by_cases c1 : off ≤ j
      · by_cases c2 : j < off + us.length
        · rw [if_pos ⟨c1, c2⟩]
          simp [List.getD_eq_getElem?_getD, List.getElem?_append, List.length_take, show ¬ j < off by omega, show min off vs.length = off by omega, show j - off < us.length by omega]
        · rw [if_neg (by omega)]
          simp [List.getD_eq_getElem?_getD, List.getElem?_append, List.length_take, List.getElem?_drop, show min off vs.length = off by omega, show ¬ j < off by omega, show ¬ j - off < us.length by omega, show off + us.length + (j - off - us.length) = j by omega]
      · rw [if_neg (by omega)]
        simp [List.getD_eq_getElem?_getD, List.getElem?_append, show min off vs.length = off by omega, show j < off by omega, List.getElem?_eq_getElem hj2])
    rw [List.set_set] at h3
    have e3 : (lch b t vs2) = { (lch b t vs) with f := fun j => vs2.getD j undef } := by unfold lch; rw [hlen]
    rw [e3]
    exact h3
theorem built_nodes (a b c : TypeId) (u v t : Value) : Try.prog.built 181 [(0, .iface a u), (1, .iface b v), (2, .iface c t)] = some #[.iface a u, .iface b v, .iface c t] := by kernel_rfl
theorem ov_buildNodes {N : Nat} {o : Oper} {F : Fr} {w : World} {x y z : Operand} {a b c : TypeId} {u v t : Value} (ho : o.op = .build 181 #[(0, x), (1, y), (2, z)]) (hx : Fr.ev F x = some (.iface a u)) (hy : Fr.ev F y = some (.iface b v)) (hz : Fr.ev F z = some (.iface c t)) :
  OpV Try.prog N o F w (.agg #[.iface a u, .iface b v, .iface c t]) := by
 intro st ha
 have := run_build (P := Try.prog) w 181 #[(0, st.eval x), (1, st.eval y), (2, st.eval z)] _ (by rw [ha.ev hx, ha.ev hy, ha.ev hz]; exact built_nodes a b c u v t)
 unfold execOp
 rw [ho]
 simp [this, Result.andThen]
theorem built_world (mem pat : Int) : Try.prog.built 184 [(0, .agg #[iv mem, iv pat, .slice none 0 0, .slice none 0 0])] = some #[iv mem, iv pat, .slice none 0 0, .slice none 0 0, .slice none 0 0, .nilIface, .nilIface, .nilIface, .slice none 0 0] := by kernel_rfl
theorem ov_buildWorld {N : Nat} {o : Oper} {F : Fr} {w : World} {x : Operand} {mem pat : Int} (ho : o.op = .build 184 #[(0, x)]) (hx : Fr.ev F x = some (.agg #[iv mem, iv pat, .slice none 0 0, .slice none 0 0])) :
  OpV Try.prog N o F w (.agg #[iv mem, iv pat, .slice none 0 0, .slice none 0 0, .slice none 0 0, .nilIface, .nilIface, .nilIface, .slice none 0 0]) := by
 intro st ha
 have := run_build (P := Try.prog) w 184 #[(0, st.eval x)] _ (by rw [ha.ev hx]; exact built_world mem pat)
 unfold execOp
 rw [ho]
 simp [this, Result.andThen]
def MW.init (mem pat : Int) (f1 f2 : List Int) : MW := ⟨mem, pat, [], [], Lg.z, Lg.z, Lg.z, fun _ => Ds.z, f1, f2⟩
def gl (l : List Int) : Int → Int := fun i => l.getD i.toNat 0
def CfgBad (mem pat : Int) (f1 f2 : List Int) : Prop := mem < 1 ∨ 1000 < mem ∨ pat < 1 ∨ 1000 < pat ∨ (f1.length : Int) ≠ mem ∨ (f2.length : Int) ≠ mem ∨ BadP (gl f1) f1.length ∨ BadP (gl f2) f2.length
noncomputable instance (mem pat : Int) (f1 f2 : List Int) : Decidable (CfgBad mem pat f1 f2) := Classical.propDecidable _
theorem freshWorld {B : Nat} {w0 w : World} {H : List (Option Blk)} {bw bc b1 b2 bm : Nat} {mem pat : Int} {f1 f2 : List Int} {v1 v2 : Value} {c1 c2 cfgb : Option Blk} {E : TypeId} (h1 : IRow v1 E f1.length (fun i => iv (gl f1 i)) c1) (h2 : IRow v2 E f2.length (fun i => iv (gl f2 i)) c2)
  (hO : Own B w0 w (some (lch bw 184 [iv mem, iv pat, .slice none 0 0, .slice none 0 0, .slice none 0 0, .iface 185 (ptr bc), .iface 192 (ptr b1), .iface 192 (ptr b2), .slice none 0 0]) ::
   some (lch bc 191 [.slice none 0 0, iv 0, iv 0, .bool false, ptr bw, .map (some bm)]) :: some (lch b1 194 [.slice none 0 0, iv 0, iv 0, .bool false, ptr bw, iv 1, v1]) ::
   some (lch b2 194 [.slice none 0 0, iv 0, iv 0, .bool false, ptr bw, iv 2, v2]) :: some (mch bm []) :: c1 :: c2 :: cfgb :: H)) :
  WAt B w0 w ⟨bw, bc, b1, b2⟩ (MW.init mem pat f1 f2) [] H := by
 refine ⟨⟨.slice none 0 0, .slice none 0 0, .slice none 0 0, .slice none 0 0, .slice none 0 0, v1, v2, [], bm, none⟩, [c1, c2], ?_, ⟨PRow.nil _ _ _, SRow.nil _ _ _, PRow.nil _ _ _, PRow.nil _ _ _, PRow.nil _ _ _, ?_, ?_, MapIs.nil⟩, fun x hx => nomatch hx⟩
 ·have h3 := hO.sub (H' := _ :: _ :: _ :: _ :: _ :: c1 :: c2 :: H) (.cons_cons _ (.cons_cons _ (.cons_cons _ (.cons_cons _ (.cons_cons _ (.cons_cons _ (.cons_cons _ (.cons _ (.refl _)))))))))
  exact h3.nil_cons.perm (List.perm_middle (a := none) (l₁ := [_, _, _, _, _])).symm
 ·exact PRow.of_irow h1 (List.mem_cons_self ..)
 ·exact PRow.of_irow h2 (List.mem_cons_of_mem _ (List.mem_cons_self ..))
end Go.Proofs.Ytfbbagnpdfafjaa
