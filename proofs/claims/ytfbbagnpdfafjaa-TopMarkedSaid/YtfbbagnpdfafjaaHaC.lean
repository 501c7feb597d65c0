import Derived.Test.YtfbbagnpdfafjaaHaB
set_option maxRecDepth 100000
namespace Go.Proofs.Ytfbbagnpdfafjaa
open Go.RowKit Go.Proofs
def monL (g : Int → Int) : List Value := (List.range 12).map fun (j : Nat) => iv (g (j : Int))
structure HA where
 cash : Int
 fund : Int
 pos : Int → Int
 out : Bool
structure Ct where
 b : Int
 s : Int
 m : Int
 q : Int
 p : Int
def accL (a : HA) : List Value := iv a.cash :: iv a.fund :: (monL a.pos ++ [.bool a.out])
def ctL (c : Ct) : List Value := [iv c.b, iv c.s, iv c.m, iv c.q, iv c.p]
structure HR where
 mo : Int
 pr : Int → Int
 ma : Option Addr
 mn : Nat
 mc : Nat
 rate : Int
 cap : Int
 hole : Int
 aa : Option Addr
 an : Nat
 ac : Nat
 ca : Option Addr
 cn : Nat
 cc : Nat
def HR.l (r : HR) : List Value := iv r.mo :: (monL r.pr ++ [.slice r.ma r.mn r.mc, iv r.rate, iv r.cap, iv r.hole, .slice r.aa r.an r.ac, .slice r.ca r.cn r.cc])
theorem monL_get (g : Int → Int) {m : Int} (h0 : 0 ≤ m) (h1 : m < 12) : (monL g)[m.toNat]? = some (iv (g m)) := by
 unfold monL
 rw [List.getElem?_map, List.getElem?_range (by omega)]
 show some (iv (g ((m.toNat : Nat) : Int))) = _
 rw [Int.toNat_of_nonneg h0]
theorem monL_len (g : Int → Int) : (monL g).length = 12 := by simp [monL]
theorem monL_set (g : Int → Int) {m : Int} (h0 : 0 ≤ m) (x : Int) : (monL g).set m.toNat (iv x) = monL (upd g m x) := by
 refine List.ext_getElem? fun j => ?_
 unfold monL
 rw [List.getElem?_set]
 by_cases hj : j < 12
 ·rw [List.getElem?_map, List.getElem?_map, List.getElem?_range hj, List.length_map, List.length_range]
  simp only [Option.map_some]
  by_cases e : m.toNat = j
  ·rw [if_pos e, if_pos (by omega), show ((j : Nat) : Int) = m by omega, upd_same]
  ·rw [if_neg e, upd_ne _ _ (by omega)]
 ·rw [List.getElem?_eq_none (l := List.map (fun (j : Nat) => iv (upd g m x (j : Int))) (List.range 12)) (by simp; omega), List.getElem?_eq_none (by simp; omega), List.length_map, List.length_range]
  split
  ·rw [if_neg (by omega)]
  ·rfl
theorem accL_len {a : HA} : (accL a).length = 15 := by simp [accL, monL]
theorem accL_pos (a : HA) {m : Int} (h0 : 0 ≤ m) (h1 : m < 12) : (accL a)[2 + m.toNat]? = some (iv (a.pos m)) := by
 unfold accL
 rw [Nat.add_comm, List.getElem?_cons_succ, List.getElem?_cons_succ, List.getElem?_append_left (by rw [monL_len]; omega)]
 exact monL_get _ h0 h1
theorem accL_setPos (a : HA) {m : Int} (h0 : 0 ≤ m) (h1 : m < 12) (x : Int) : (accL a).set (2 + m.toNat) (iv x) = accL { a with pos := upd a.pos m x } := by
 unfold accL
 rw [Nat.add_comm, List.set_cons_succ, List.set_cons_succ, List.set_append_left _ _ (by rw [monL_len]; omega), monL_set _ h0]
theorem HR.pr_at (r : HR) {m : Int} (h0 : 0 ≤ m) (h1 : m < 12) : r.l[1 + m.toNat]? = some (iv (r.pr m)) := by
 unfold HR.l
 rw [Nat.add_comm, List.getElem?_cons_succ, List.getElem?_append_left (by rw [monL_len]; omega)]
 exact monL_get _ h0 h1
theorem HR.setPr (r : HR) {m : Int} (h0 : 0 ≤ m) (h1 : m < 12) (x : Int) : r.l.set (1 + m.toNat) (iv x) = ({ r with pr := upd r.pr m x } : HR).l := by
 unfold HR.l
 rw [Nat.add_comm, List.set_cons_succ, List.set_append_left _ _ (by rw [monL_len]; omega), monL_set _ h0]
theorem Own.rangeSub {B : Nat} {w0 w : World} {H : List (Option Blk)} (h : Own B w0 w H) (k : Nat) {b : Nat} {t : TypeId} {vs cs : List Value} (off : Nat) (hk : H[k]? = some (some (lch b t vs))) (hs : ∀ j v, cs[j]? = some v → vs[off + j]? = some v) : w.rangeAt b off cs := fun j v hv => h.cellL k hk (hs j v hv)
theorem accL_mon (a : HA) : ∀ j v, (monL a.pos)[j]? = some v → (accL a)[2 + j]? = some v := fun j v hv => by
 have hl := (List.getElem?_eq_some_iff.1 hv).1
 unfold accL
 rw [Nat.add_comm, List.getElem?_cons_succ, List.getElem?_cons_succ, List.getElem?_append_left hl]
 exact hv
theorem HR.l_mon (r : HR) : ∀ j v, (monL r.pr)[j]? = some v → r.l[1 + j]? = some v := fun j v hv => by
 have hl := (List.getElem?_eq_some_iff.1 hv).1
 unfold HR.l
 rw [Nat.add_comm, List.getElem?_cons_succ, List.getElem?_append_left hl]
 exact hv
abbrev houB (hb : Nat) (r : HR) : Option Blk := some (lch hb 124 r.l)
def lossF (mv : Int → Int → Int) (p : Int → Int) (i : Int) : Int := sm (fun m => -(p m * mv i m)) 12
def mxF (f : Int → Int) : Nat → Int
 | 0 => 0
 | k + 1 => max (mxF f k) (f k)
def spanF (p pr : Int → Int) : Int := sm (fun m => max (p m) (-(p m)) * pr m) 12
def marF (mv : Int → Int → Int) (k : Nat) (rate : Int) (p pr : Int → Int) : Int := mxF (lossF mv p) k + (spanF p pr * rate + 999) / 1000
theorem ov_idx12 {N : Nat} {o : Oper} {F : Fr} {w : World} {T : TypeId} {x ix : Operand} {g : Int → Int} {i : Int} (ho : o.op = .index T x ix) (hT : Try.prog.underlying T = some (.array 12 2)) (hx : Fr.ev F x = some (.agg (monL g).toArray)) (hi : Fr.ev F ix = some (iv i)) (hb : 0 ≤ i ∧ i < 12) : OpV Try.prog N o F w (iv (g i)) := by
 intro st ha
 have h1 := monL_get g hb.1 hb.2
 have h2 := monL_len g
 have e : (Instr.index T (.agg (monL g).toArray) (iv i)).run Try.prog w = .ok (iv (g i)) w := by
  have hn : 0 ≤ i ∧ i < ((12 : Nat) : Int) := hb
  have hn2 : 0 ≤ i ∧ i < 12 := hb
  obtain ⟨inf, hinf, hi2⟩ := Option.map_eq_some_iff.1 info_2
  have hsz : inf.size = 1 := congrArg (fun p => p.2.1) hi2
  have h3 : (part 2 (monL g).toArray i.toNat).run Try.prog w = .ok (iv (g i)) w := by simp [part, isAgg, run_underlying Try.underlying2, h1]
  simp [Instr.index, asIntOf, run_underlying hT, hn2, sizeOf, typeInfo, hinf, hsz, h3, Result.andThen]
 unfold execOp
 simp [ho, ha.ev hx, ha.ev hi, e, Result.andThen]
theorem in_any (x lo hi : Int) (w : World) : Calls Try.prog 54 #[iv x, iv lo, iv hi] w fun e w' => e = .returned (.bool (decide (lo ≤ x ∧ x ≤ hi))) ∧ w' = w := by
 refine calls_of_run (F := [(0, _), (1, _), (2, _)]) Try.func54 rfl Try.ntmps54 rfl rfl ?_
 have hO0 := Own.init w
 refine run_seq <| run_region <| rl_v rfl rfl rfl (ov_assign rfl rfl) <| rl_nil <| run_seq <| run_region <| rl_v rfl rfl rfl (ov_move rfl rfl) <| rl_v rfl rfl rfl (ov_move rfl rfl) <| rl_v rfl rfl rfl (ov_geq rfl rfl rfl) <| rl_v rfl rfl rfl (ov_move rfl rfl) ?_
 first | refine rl_split_dec 10 rfl (fun g1 => ?_) (fun g1 => ?_) | refine rl_split 10 rfl (fun g1 => ?_) (fun g1 => ?_)
 ·refine rl_gv rfl rfl rfl rfl rfl (ov_move rfl rfl) <| rl_gv rfl rfl rfl rfl rfl (ov_move rfl rfl) <| rl_gv rfl rfl rfl rfl rfl (ov_leq rfl rfl rfl) <| rl_v rfl rfl rfl (ov_pick_t rfl rfl rfl) <| rl_v rfl rfl rfl (ov_assign rfl rfl) <| rl_nil <| run_ret Try.func54 (res1 Try.results54 rfl) ?_
  exact ⟨by simp [g1], rfl⟩
 ·refine rl_gskip rfl rfl rfl rfl rfl rfl <| rl_gskip rfl rfl rfl rfl rfl rfl <| rl_gskip rfl rfl rfl rfl rfl rfl <| rl_v rfl rfl rfl (ov_pick_f rfl rfl rfl) <| rl_v rfl rfl rfl (ov_assign rfl rfl) <| rl_nil <| run_ret Try.func54 (res1 Try.results54 rfl) ?_
  exact ⟨by simp [g1], rfl⟩
theorem isMember_any (hb B k : Nat) (r : HR) (i : Int) (H : List (Option Blk)) (w0 w : World) (hO : Own B w0 w H) (hk : H[k]? = some (houB hb r)) :
  Calls Try.prog 110 #[ptr hb, iv i] w fun e w' => e = .returned (.bool (decide (1 ≤ i ∧ i ≤ r.an))) ∧ w' = w := by
 refine calls_of_run (F := [(0, _), (1, _)]) Try.func110 rfl Try.ntmps110 rfl rfl <| run_seq <| run_region <| rl_v rfl rfl rfl (ov_assign rfl rfl) <| rl_nil <| run_seq <| run_region <| rl_v rfl rfl rfl (ov_move rfl rfl) <| rl_v rfl rfl rfl (ov_geq rfl rfl rfl) <| rl_v rfl rfl rfl (ov_move rfl rfl) ?_
 first | refine rl_split_dec 7 rfl (fun g1 => ?_) (fun g1 => ?_) | refine rl_split 7 rfl (fun g1 => ?_) (fun g1 => ?_)
 ·refine rl_gv rfl rfl rfl rfl rfl (ov_move rfl rfl) <| rl_gv rfl rfl rfl rfl rfl (ov_move rfl rfl) <| rl_gv rfl rfl rfl rfl rfl (ov_nil rfl rfl) <| rl_gv rfl rfl rfl rfl rfl (ov_fieldS rfl Try.underlying124 rfl (fo := 17) rfl (by kernel_rfl) rfl) ?_
  refine rl_gv rfl rfl rfl rfl rfl (ov_load rfl Try.underlying120 rfl rfl (by exact hO.cellL k hk (off := 17) rfl)) ?_
  refine rl_gv rfl rfl rfl rfl rfl (ov_len rfl Try.underlying120 rfl) <| rl_gv rfl rfl rfl rfl rfl (ov_leq rfl rfl rfl) <| rl_v rfl rfl rfl (ov_pick_t rfl rfl rfl) <| rl_v rfl rfl rfl (ov_assign rfl rfl) <| rl_nil <| run_ret Try.func110 (res1 Try.results110 rfl) ?_
  exact ⟨by simp [g1], rfl⟩
 ·refine rl_gskip rfl rfl rfl rfl rfl rfl <| rl_gskip rfl rfl rfl rfl rfl rfl <| rl_gskip rfl rfl rfl rfl rfl rfl <| rl_gskip rfl rfl rfl rfl rfl rfl <| rl_gskip rfl rfl rfl rfl rfl rfl <| rl_gskip rfl rfl rfl rfl rfl rfl <| rl_gskip rfl rfl rfl rfl rfl rfl <| rl_v rfl rfl rfl (ov_pick_f rfl rfl rfl) <| rl_v rfl rfl rfl (ov_assign rfl rfl) <| rl_nil <| run_ret Try.func110 (res1 Try.results110 rfl) ?_
  exact ⟨by simp [g1], rfl⟩
end Go.Proofs.Ytfbbagnpdfafjaa
