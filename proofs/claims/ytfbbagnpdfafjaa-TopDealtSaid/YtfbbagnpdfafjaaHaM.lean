import Derived.Test.YtfbbagnpdfafjaaHaL
set_option maxRecDepth 100000
namespace Go.Proofs.Ytfbbagnpdfafjaa
open Go.RowKit Go.Proofs
theorem int_snoc {l : List Int} {g : Int → Int} {x : Int} {v : Value} {E : TypeId} {c : Option Blk} (h : IRow v E (l.length + 1) (fun j => iv (upd (fun t => g (glF l t)) l.length (g x) j)) c) : IRow v E (l ++ [x]).length (fun t => iv (g (glF (l ++ [x]) t))) c := by
 rw [List.length_append]
 refine h.congr fun t t0 t1 => ?_
 unfold upd
 by_cases e : t = l.length
 ·rw [if_pos e, e, glF_top]
 ·rw [if_neg e, glF_low t0 (by omega)]
theorem monL_congr {f g : Int → Int} (h : ∀ m : Int, 0 ≤ m → m < 12 → f m = g m) : monL f = monL g := List.map_congr_left fun j hj => by rw [h j (by omega) (by have := List.mem_range.1 hj; omega)]
theorem accL_congr {a b : HA} (h1 : a.cash = b.cash) (h2 : a.fund = b.fund) (h3 : ∀ m : Int, 0 ≤ m → m < 12 → a.pos m = b.pos m) (h4 : a.out = b.out) : accL a = accL b := by
 unfold accL
 rw [h1, h2, h4, monL_congr h3]
theorem takeOver_any (hb B : Nat) (X : HM) (K : HK) (i : Int) (N R : List (Option Blk)) (w0 w : World) (hO : Own B w0 w (houB hb (X.r K) :: K.blk :: (N ++ R))) (hK : HOk X K N) (hG : HG X) (hm20 : X.mem < 20) (hZ : HZ X) (hi : 1 ≤ i ∧ i ≤ X.mem) :
  Calls Try.prog 67 #[ptr hb, iv i] w fun e w' => e = .returned (.tuple #[]) ∧ ∃ c, AccRow K.ab X.mem K.acap (X.tkG i 12) c ∧ Own B w0 w' (houB hb (X.r K) :: c :: (N ++ R)) := by
 have hpi : ∀ m : Int, 0 ≤ m → m < 12 → ((X.acct i).pos m).natAbs ≤ 1000000 := hG.pos (i - 1) (by omega) (by omega)
 refine calls_of_run (F := [(0, _), (1, _)]) Try.func67 rfl Try.ntmps67 rfl rfl <| run_seq <| run_region <| rl_v rfl rfl rfl (ov_move rfl rfl) <| rl_v rfl rfl rfl (ov_nil rfl rfl) <| rl_v rfl rfl rfl (ov_fieldS rfl Try.underlying124 rfl (fo := 17) rfl (by kernel_rfl) rfl) ?_
 refine rl_v rfl rfl rfl (ov_load rfl Try.underlying120 rfl rfl (by exact hO.cellL 0 rfl (off := 17) rfl)) ?_
 refine rl_v rfl rfl rfl (ov_move rfl rfl) <| rl_v rfl rfl rfl (ov_sub rfl rfl rfl (by omega)) ?_
 refine rl_v rfl rfl rfl (ov_index rfl Try.underlying120 (by kernel_rfl) (s := 15) rfl rfl ⟨by omega, show i - 1 < (X.mem : Int) by omega⟩ rfl) ?_
 refine rl_v rfl rfl rfl (ov_assign rfl rfl) <| rl_nil <| run_seq <| run_region <| rl_v rfl rfl rfl (ov_move rfl rfl) <| rl_v rfl rfl rfl (ov_nil rfl rfl) <| rl_v rfl rfl rfl (ov_fieldS rfl Try.underlying127 rfl (fo := 2) rfl (by kernel_rfl) rfl) ?_
 refine rl_v rfl rfl rfl (ov_loadN rfl Try.underlying118 rfl (by kernel_rfl) rfl ((show World.rangeAt _ K.ab (0 + (i - 1).toNat * 15 + 2) (monL (X.acct i).pos) from fun j v hv => by { have hj := (List.getElem?_eq_some_iff.1 hv).1; rw [monL_len] at hj; have h := hK.reads hO 1 rfl (i - 1) (by omega) (by omega) (2 + j) (by omega); rw [List.getD_eq_getElem?_getD, show X.ac (i - 1) = X.acct i from rfl, accL_mon _ j v hv] at h; rw [Nat.add_assoc]; exact h }))) ?_
 refine rl_v rfl rfl rfl (ov_move rfl rfl) <| rl_nil <| run_block <| Run.keep [0, 1, 4, 25, 26] (F' := [(0, _), (1, _), (4, _), (25, _), (26, _)]) rfl <| run_loop2 (fun (m : Int) (c : Option Blk) => [(26, .int .i64 m)]) [0, 1, 4, 25] (fun (m : Int) (c : Option Blk) (w1 : World) => (0 ≤ m ∧ m ≤ 12) ∧ AccRow K.ab X.mem K.acap (X.tkG i m) c ∧ Own B w0 w1 (houB hb (X.r K) :: c :: (N ++ R))) (fun (m : Int) (c : Option Blk) => (12 - m).toNat) (0) (K.blk) ?_ (And.intro (by exact slot_int rfl (by first | omega)) (And.intro rfl (And.intro rfl (And.intro rfl (And.intro rfl trivial))))) ?_
 ·exact ⟨by omega, SRow.congr hK.acc (fun j _ _ => accL_congr rfl rfl (fun m m0 _ => (if_neg (show ¬ m < 0 by omega)).symm) rfl), hO⟩
 intro m c w1 hIw1 ih2
 obtain ⟨hm, hrw, hO1⟩ := hIw1
 show Run _ _ _ _ [(26, _), (0, _), (1, _), (4, _), (25, _)] _ _
 refine run_seq <| run_region <| rl_v rfl rfl rfl (ov_lss rfl rfl rfl) <| rl_nil <| run_seq ?_
 first | refine run_cond_dec rfl (fun h1 => ?_) (fun h1 => ?_) | refine run_cond rfl (fun h1 => ?_) (fun h1 => ?_)
 ·have hm0 := hm.1
  have hxb := hpi m hm.1 h1
  refine run_skip <| run_seq <| run_block <| run_seq <| run_region <| rl_v rfl rfl rfl (ov_move rfl rfl) <| rl_v rfl rfl rfl (ov_idx12 (g := (X.acct i).pos) rfl Try.underlying118 rfl rfl ⟨hm.1, h1⟩) <| rl_v rfl rfl rfl (ov_assign rfl rfl) <| rl_v rfl rfl rfl (ov_assign rfl rfl) <| rl_nil <| run_seq <| run_seq <| run_region <| rl_v rfl rfl rfl (ov_move rfl rfl) <| rl_v rfl rfl rfl (ov_eql rfl rfl rfl) <| rl_nil ?_
  first | refine run_cond_dec rfl (fun hx => ?_) (fun hx => ?_) | refine run_cond rfl (fun hx => ?_) (fun hx => ?_)
  ·refine run_exit rfl <| run_region <| rl_v rfl rfl rfl (ov_add rfl rfl rfl (by omega)) ?_
   refine rl_v rfl rfl rfl (ov_move rfl rfl) <| rl_nil ?_
   refine Run.use (ih2 (m + 1) (c) _ ?_ ?_) (And.intro (by exact slot_int rfl (by first | omega)) (And.intro rfl (And.intro rfl (And.intro rfl (And.intro rfl trivial)))))
   ·first | omega | (dsimp only; omega)
   ·exact ⟨by omega, SRow.congr hrw (fun j _ _ => congrArg accL (tkG_same (by unfold HM.tkP; rw [if_pos hx]))), hO1⟩
  ·refine run_skip <| run_seq <| run_region <| rl_v rfl rfl rfl (ov_assign rfl rfl) <| rl_nil <| run_seq <| run_seq <| run_region <| rl_v rfl rfl rfl (ov_move rfl rfl) <| rl_v rfl rfl rfl (ov_lss rfl rfl rfl) <| rl_nil <| Run.keep [0, 1, 4, 5, 6, 7, 25, 26, 33] (F' := [(0, _), (1, _), (4, _), (5, _), (6, _), (7, _), (25, _), (26, _), (33, _)]) rfl <| run_join1 (fun (s : Int) => [(7, .int .i64 s)]) [0, 1, 4, 5, 6, 25, 26] (fun (s : Int) (w3 : World) => s = sgn ((X.acct i).pos m) ∧ Own B w0 w3 (houB hb (X.r K) :: c :: (N ++ R))) (fun hk4 => ?_) ?_
   ·first | refine run_cond_dec rfl (fun hneg => ?_) (fun hneg => ?_) | refine run_cond rfl (fun hneg => ?_) (fun hneg => ?_)
    ·refine run_region <| rl_v rfl rfl rfl (ov_assign rfl rfl) <| rl_nil ?_
     refine Run.use (hk4 (-1) _ ?_) (And.intro (by exact slot_int rfl (by first | omega)) (And.intro rfl (And.intro rfl (And.intro rfl (And.intro rfl (And.intro rfl (And.intro rfl (And.intro rfl trivial))))))))
     exact ⟨(if_pos hneg).symm, hO1⟩
    ·refine run_skip ?_
     refine Run.use (hk4 (1) _ ?_) (And.intro (by exact slot_int rfl (by first | omega)) (And.intro rfl (And.intro rfl (And.intro rfl (And.intro rfl (And.intro rfl (And.intro rfl (And.intro rfl trivial))))))))
     exact ⟨(if_neg hneg).symm, hO1⟩
   ·intro s w3 hJw3
    obtain ⟨hs, hO2⟩ := hJw3
    show Run _ _ _ _ [(7, _), (0, _), (1, _), (4, _), (5, _), (6, _), (25, _), (26, _)] _ _
    have hs1 : s = 1 ∨ s = -1 := by rw [hs]; exact sgn_one _
    have hsx : s * (X.acct i).pos m = (X.acct i).pos m * s := Int.mul_comm _ _
    have htot : 0 ≤ s * (X.acct i).pos m ∧ s * (X.acct i).pos m ≤ 1000000 := by rw [hs, sgn_mul]; omega
    have hpj : ∀ j : Int, 0 ≤ j → j < X.mem → ((X.ac j).pos m).natAbs ≤ 1000000 := fun j j0 j1 => hG.pos j j0 j1 m hm0 h1
    have hKm : HOk { X with ac := X.tkG i m } { K with blk := c } N := ⟨hrw, hK.mv, hK.ct, hK.cz, hK.cc⟩
    refine run_seq <| run_region <| rl_v rfl rfl rfl (ov_assign rfl rfl) <| rl_nil <| run_seq <| run_region <| rl_v rfl rfl rfl (ov_assign rfl rfl) <| rl_nil <| run_seq <| run_seq <| run_region <| rl_v rfl rfl rfl (ov_move rfl rfl) <| rl_v rfl rfl rfl (ov_move rfl rfl) ?_
    refine rl_call callable_111 rfl rfl rfl rfl rfl rfl (others_any hb B { X with ac := X.tkG i m } { K with blk := c } i N _ w0 w3 hO2 0 1 rfl rfl hKm (by show X.mem ≤ 64; omega) hi) (fun e5 w6 hp7 => ?_)
    obtain ⟨vo, co, rfl, hro, hO3⟩ := hp7
    refine ⟨_, rfl, ?_⟩
    replace hro : IRow vo 125 (filL (X.othP i) X.mem).length (fun t => accP K.ab (glF (filL (X.othP i) X.mem) t)) co := hro
    obtain ⟨lo, hlo⟩ : ∃ lo, lo = filL (X.othP i) X.mem := ⟨_, rfl⟩
    rw [← hlo] at hro
    obtain ⟨ao, xo, rfl⟩ := hro.val
    have hlol : lo.length ≤ X.mem := by rw [hlo]; exact filL_len _ _
    obtain ⟨Q, hQ⟩ : ∃ Q : Int → Bool, Q = fun j => decide (0 < -s * (X.ac j).pos m) := ⟨_, rfl⟩
    refine rl_v rfl rfl rfl (ov_len rfl Try.underlying209 rfl) <| rl_v rfl rfl rfl (ov_move rfl rfl) <| rl_nil <| run_block <| Run.keep [0, 1, 4, 5, 6, 7, 8, 9, 25, 26, 36, 37, 38] (F' := [(0, _), (1, _), (4, _), (5, _), (6, _), (7, _), (8, _), (9, _), (25, _), (26, _), (36, _), (37, _), (38, _)]) rfl <| run_loop5 (fun (t : Int) (n : Nat) (va : Value) (vw : Value) (cs : Option Blk × Option Blk) => [(8, va), (9, vw), (38, .int .i64 t)]) [0, 1, 4, 5, 6, 7, 25, 26, 36, 37] (fun (t : Int) (n : Nat) (va : Value) (vw : Value) (cs : Option Blk × Option Blk) (w8 : World) => t = n ∧ n ≤ lo.length ∧ IRow va 125 ((lo.take n).filter Q).length (fun t => accP K.ab (glF ((lo.take n).filter Q) t)) cs.1 ∧ IRow vw 2 ((lo.take n).filter Q).length (fun t => iv (-s * (X.ac (glF ((lo.take n).filter Q) t)).pos m)) cs.2 ∧ Own B w0 w8 (cs.2 :: cs.1 :: co :: houB hb (X.r K) :: c :: (N ++ R))) (fun (t : Int) (n : Nat) (va : Value) (vw : Value) (cs : Option Blk × Option Blk) => lo.length - n) (0) (0) (.slice none 0 0) (.slice none 0 0) ((none, none)) ?_ (And.intro rfl (And.intro rfl (And.intro (by exact slot_int rfl (by first | omega)) (And.intro rfl (And.intro rfl (And.intro rfl (And.intro rfl (And.intro rfl (And.intro rfl (And.intro rfl (And.intro rfl (And.intro rfl (And.intro rfl trivial))))))))))))) ?_
    ·exact ⟨rfl, by omega, IRow.nil _ _, IRow.nil _ _, hO3.nil_cons.nil_cons⟩
    intro t n va vw cs w8 hIw8 ih9
    obtain ⟨ht, hn, hra, hrv, hO4⟩ := hIw8
    show Run _ _ _ _ [(8, _), (9, _), (38, _), (0, _), (1, _), (4, _), (5, _), (6, _), (7, _), (25, _), (26, _), (36, _), (37, _)] _ _
    obtain ⟨ca, cw⟩ := cs
    dsimp only at hra hrv hO4
    refine run_seq <| run_region <| rl_v rfl rfl rfl (ov_lss rfl rfl rfl) <| rl_nil <| run_seq ?_
    first | refine run_cond_dec rfl (fun h2 => ?_) (fun h2 => ?_) | refine run_cond rfl (fun h2 => ?_) (fun h2 => ?_)
    ·have h2' : n < lo.length := by omega
     have hjm : (0 ≤ glF lo t ∧ glF lo t < X.mem) ∧ X.othP i (glF lo t) = true := by rw [hlo]; exact filL_in (X.othP i) X.mem t (by omega) (by rw [← hlo]; omega)
     have hflen : ((lo.take n).filter Q).length ≤ n := Nat.le_trans (List.length_filter_le _ _) (by rw [List.length_take]; omega)
     have hpos := hpj _ hjm.1.1 hjm.1.2
     have hmul := mulAbs (a := -s) (b := (X.ac (glF lo t)).pos m) (A := 1) (B := 1000000) (by omega) hpos
     obtain ⟨bo, hao, hrdo⟩ := hro.openS hO4 2 rfl
     refine run_skip <| run_seq <| run_block <| run_seq <| run_region <| rl_v rfl rfl rfl (ov_index1 rfl Try.underlying209 (by kernel_rfl) rfl rfl ⟨by omega, by omega⟩ (by exact (hao (by omega)))) ?_
     refine rl_v rfl rfl rfl (ov_load rfl Try.underlying125 rfl rfl (by exact hrdo t (by omega) (by omega))) ?_
     refine rl_v rfl rfl rfl (ov_assign rfl rfl) <| rl_nil <| run_seq <| run_region <| rl_v rfl rfl rfl (ov_move rfl rfl) <| rl_v rfl rfl rfl (ov_neg rfl rfl (by omega)) ?_
     refine rl_v rfl rfl rfl (ov_move rfl rfl) <| rl_v rfl rfl rfl (ov_move rfl rfl) <| rl_v rfl rfl rfl (ov_nil rfl rfl) <| rl_v rfl rfl rfl (ov_fieldS rfl Try.underlying127 rfl (fo := 2) rfl (by kernel_rfl) rfl) ?_
     refine rl_v rfl rfl rfl (ov_indexA1 rfl Try.underlying118 (by kernel_rfl) rfl rfl ⟨by omega, by omega⟩) ?_
     refine rl_v rfl rfl rfl (ov_load rfl Try.underlying2 rfl rfl (by exact (rowPos hrw hO4 4 rfl hjm.1.1 hjm.1.2 hm0 h1).trans (congrArg (fun x => some (iv x)) (tkG_pos X i m (glF lo t))))) ?_
     refine rl_v rfl rfl rfl (ov_mul rfl rfl rfl (by omega)) ?_
     refine rl_v rfl rfl rfl (ov_assign rfl rfl) <| rl_nil <| run_seq <| run_region <| rl_v rfl rfl rfl (ov_move rfl rfl) <| rl_v rfl rfl rfl (ov_gtr rfl rfl rfl) <| rl_nil ?_
     first | refine run_cond_dec rfl (fun hw => ?_) (fun hw => ?_) | refine run_cond rfl (fun hw => ?_) (fun hw => ?_)
     ·have eq : Q (glF lo n) = true := by rw [hQ, ← ht]; exact decide_eq_true hw
      have el : (lo.take (n + 1)).filter Q = (lo.take n).filter Q ++ [glF lo n] := by rw [take_fil lo Q n h2', if_pos eq]
      refine run_region <| rl_v rfl rfl rfl (ov_move rfl rfl) <| rl_v rfl rfl rfl (ov_move rfl rfl) ?_
      refine rl_appV rfl rfl rfl rfl rfl rfl rfl rfl Try.underlying209 info_125 rfl hO4 1 hra rfl rfl rfl rfl ⟨by omega, by omega⟩ (fun va2 ca2 w10 hO11 hra2 hs12 => ?_)
      refine rl_v rfl rfl rfl (ov_move rfl rfl) <| rl_v rfl rfl rfl (ov_move rfl rfl) ?_
      refine rl_appI rfl rfl rfl rfl rfl rfl rfl rfl Try.underlying22 info_2 rfl hO11 0 hrv rfl rfl rfl ⟨by omega, by omega⟩ (fun vw2 cw2 w13 hO14 hrv2 hs15 => ?_)
      refine rl_v rfl rfl rfl (ov_assign rfl rfl) <| rl_v rfl rfl rfl (ov_assign rfl rfl) <| rl_nil <| run_inBlock <| run_region <| rl_v rfl rfl rfl (ov_add rfl rfl rfl (by omega)) ?_
      refine rl_v rfl rfl rfl (ov_move rfl rfl) <| rl_nil ?_
      refine Run.use (ih9 (t + 1) (n + 1) (va2) (vw2) ((ca2, cw2)) _ ?_ ?_) (And.intro rfl (And.intro rfl (And.intro (by exact slot_int rfl (by first | omega)) (And.intro rfl (And.intro rfl (And.intro rfl (And.intro rfl (And.intro rfl (And.intro rfl (And.intro rfl (And.intro rfl (And.intro rfl (And.intro rfl trivial)))))))))))))
      ·first | omega | (dsimp only; omega)
      ·exact ⟨by omega, by omega, by rw [el]; exact ptr_snoc (by rw [← ht]; exact hra2), by rw [el]; exact int_snoc (g := fun j => -s * (X.ac j).pos m) (by rw [← ht]; exact hrv2), hO14⟩
     ·have eq : ¬ Q (glF lo n) = true := by rw [hQ, ← ht]; simpa using hw
      have el : (lo.take (n + 1)).filter Q = (lo.take n).filter Q := by rw [take_fil lo Q n h2', if_neg eq]
      refine run_skip <| run_inBlock <| run_region <| rl_v rfl rfl rfl (ov_add rfl rfl rfl (by omega)) ?_
      refine rl_v rfl rfl rfl (ov_move rfl rfl) <| rl_nil ?_
      refine Run.use (ih9 (t + 1) (n + 1) (va) (vw) ((ca, cw)) _ ?_ ?_) (And.intro rfl (And.intro rfl (And.intro (by exact slot_int rfl (by first | omega)) (And.intro rfl (And.intro rfl (And.intro rfl (And.intro rfl (And.intro rfl (And.intro rfl (And.intro rfl (And.intro rfl (And.intro rfl (And.intro rfl trivial)))))))))))))
      ·first | omega | (dsimp only; omega)
      ·exact ⟨by omega, by omega, by rw [el]; exact hra, by rw [el]; exact hrv, hO4⟩
    ·obtain rfl : lo.length = n := by omega
     rw [List.take_length] at hra hrv
     have hl2 : lo.filter Q = filL (X.agP i m s) X.mem := by rw [hlo, filL_filter, hQ]; rfl
     rw [hl2] at hra hrv
     obtain ⟨l2, hl2e⟩ : ∃ l2, l2 = filL (X.agP i m s) X.mem := ⟨_, rfl⟩
     rw [← hl2e] at hra hrv
     obtain ⟨aa, xa, rfl⟩ := hra.val
     obtain ⟨aw, xw, rfl⟩ := hrv.val
     have hl2n : l2.length ≤ X.mem := by rw [hl2e]; exact filL_len _ _
     have hin : ∀ t : Int, 0 ≤ t → t < l2.length → (0 ≤ glF l2 t ∧ glF l2 t < X.mem) ∧ X.agP i m s (glF l2 t) = true := fun t t0 t1 => by rw [hl2e] at t1 ⊢; exact filL_in _ _ t t0 t1
     have hW : ∀ t : Int, 0 ≤ t → t < l2.length → 0 ≤ -s * (X.ac (glF l2 t)).pos m ∧ -s * (X.ac (glF l2 t)).pos m ≤ 100000000000000000 := fun t t0 t1 => by
      have h1 := hin t t0 t1
      have h2 := wt_ag h1.2
      have h3 := mulAbs (a := -s) (b := (X.ac (glF l2 t)).pos m) (A := 1) (B := 1000000) (by omega) (hpj _ h1.1.1 h1.1.2)
      omega
     have hsum : s * (X.acct i).pos m ≤ sm (fun t => -s * (X.ac (glF l2 t)).pos m) l2.length := by
      have h1 := wt_sum hZ hi hm0 h1 hs1
      rw [filL_sum (X.agP i m s) (X.wt i m s) X.mem (fun j _ _ h => wt_off h), ← hl2e] at h1
      rw [sm_congr (g := fun t => X.wt i m s (glF l2 t)) fun t t0 t1 => (wt_ag (hin t t0 t1).2).1.symm]
      exact h1
     refine run_exit rfl <| run_seq <| run_seq <| run_region <| rl_v rfl rfl rfl (ov_move rfl rfl) <| rl_v rfl rfl rfl (ov_move rfl rfl) <| rl_v rfl rfl rfl (ov_mul rfl rfl rfl (by omega)) ?_
     refine rl_v rfl rfl rfl (ov_move rfl rfl) ?_
     refine rl_call callable_112 rfl rfl rfl rfl rfl rfl (dealt_any (s * (X.acct i).pos m) aw l2.length xw B (fun t => -s * (X.ac (glF l2 t)).pos m) _ w0 w8 hO4 (fun _ _ _ hO => hrv.reads hO 0 rfl) (by omega) hW ⟨htot.1, hsum⟩) (fun e16 w17 hp18 => ?_)
     obtain ⟨bd, out, rfl, hshr, hO5⟩ := hp18
     refine ⟨_, rfl, ?_⟩
     have hout := hshr.rng htot.1 fun t t0 t1 => (hW t t0 t1).1
     obtain ⟨o', ho1, ho2⟩ := spreadOut hl2e out
     have htk : ∀ j : Int, 0 ≤ j → j < X.mem → shF (s * (X.acct i).pos m) X.mem (X.wt i m s) j = o' j := by
      rw [hl2e] at hshr ho1 ho2
      exact taken_eq htot.1 hshr ho1 ho2
     have htkP : ∀ j : Int, 0 ≤ j → j < X.mem → j ≠ i - 1 → X.tkP i j m = (X.ac j).pos m + s * o' j := fun j j0 j1 jn => by
      unfold HM.tkP
      rw [if_neg hx, if_neg jn, ← hs, htk j j0 j1]
     refine rl_v rfl rfl rfl (ov_len rfl Try.underlying22 rfl) <| rl_v rfl rfl rfl (ov_move rfl rfl) <| rl_nil <| run_block <| Run.keep [0, 1, 4, 5, 7, 8, 25, 26, 66, 67, 68] (F' := [(0, _), (1, _), (4, _), (5, _), (7, _), (8, _), (25, _), (26, _), (66, _), (67, _), (68, _)]) rfl <| run_loop3 (fun (t : Int) (n : Nat) (c : Option Blk) => [(68, .int .i64 t)]) [0, 1, 4, 5, 7, 8, 25, 26, 66, 67] (fun (t : Int) (n : Nat) (c : Option Blk) (w19 : World) => t = n ∧ n ≤ l2.length ∧ AccRow K.ab X.mem K.acap (fun j => if j ∈ l2.take n then X.tkG i (m + 1) j else X.tkG i m j) c ∧ Own B w0 w19 (some (vch bd 2 l2.length (fun t => iv (out t))) :: cw :: ca :: co :: houB hb (X.r K) :: c :: (N ++ R))) (fun (t : Int) (n : Nat) (c : Option Blk) => l2.length - n) (0) (0) (c) ?_ (And.intro (by exact slot_int rfl (by first | omega)) (And.intro rfl (And.intro rfl (And.intro rfl (And.intro rfl (And.intro rfl (And.intro rfl (And.intro rfl (And.intro rfl (And.intro rfl (And.intro rfl trivial))))))))))) ?_
     ·exact ⟨rfl, by omega, SRow.congr hrw (fun j _ _ => by simp), hO5⟩
     intro t n c w19 hIw19 ih20
     obtain ⟨ht, hn, hrw, hO6⟩ := hIw19
     show Run _ _ _ _ [(68, _), (0, _), (1, _), (4, _), (5, _), (7, _), (8, _), (25, _), (26, _), (66, _), (67, _)] _ _
     refine run_seq <| run_region <| rl_v rfl rfl rfl (ov_lss rfl rfl rfl) <| rl_nil <| run_seq ?_
     first | refine run_cond_dec rfl (fun h3 => ?_) (fun h3 => ?_) | refine run_cond rfl (fun h3 => ?_) (fun h3 => ?_)
     ·have h3' : n < l2.length := by omega
      have hjt := hin t (by omega) h3
      have hjw := wt_ag hjt.2
      have hjp := hpj _ hjt.1.1 hjt.1.2
      have hot := hout t (by omega) h3
      have hmul := mulAbs (a := s) (b := out t) (A := 1) (B := 1000000) (by omega) (by omega)
      have hni : glF l2 t ∉ l2.take n := by rw [ht, hl2e]; exact filL_notin (by rw [← hl2e]; exact h3')
      obtain ⟨ba, hba, hrda⟩ := hra.openZ (by omega)
      have hbaf := fun (_ : True) => hba
      refine run_skip <| run_seq <| run_block <| run_seq <| run_region <| rl_v rfl rfl rfl (ov_move rfl rfl) <| rl_v rfl rfl rfl (ov_index1 rfl Try.underlying22 (by kernel_rfl) rfl rfl ⟨by omega, by omega⟩ (by rfl)) ?_
      refine rl_v rfl rfl rfl (ov_load rfl Try.underlying2 rfl rfl (by exact hO6.cellI 0 rfl t (by omega) (by omega))) ?_
      refine rl_v rfl rfl rfl (ov_assign rfl rfl) <| rl_v rfl rfl rfl (ov_assign rfl rfl) <| rl_nil <| run_tail 16 mixed (by kernel_rfl) ?_
      have hO22 := hO6.drew
      generalize World.drew w19 = w21 at hO22 ⊢
      refine rt_v rfl rfl rfl (ov_move rfl rfl) <| rt_v rfl rfl rfl (ov_move rfl rfl) <| rt_v rfl rfl rfl (ov_index1 rfl Try.underlying209 (by kernel_rfl) rfl rfl ⟨by omega, by omega⟩ (by exact (hbaf trivial))) ?_
      refine rt_v rfl rfl rfl (ov_load rfl Try.underlying125 rfl rfl (by exact hrda hO22 2 rfl t (by omega) (by omega))) ?_
      refine rt_v rfl rfl rfl (ov_move rfl rfl) <| rt_v rfl rfl rfl (ov_nil rfl rfl) <| rt_v rfl rfl rfl (ov_fieldS rfl Try.underlying127 rfl (fo := 2) rfl (by kernel_rfl) rfl) ?_
      refine rt_v rfl rfl rfl (ov_indexA1 rfl Try.underlying118 (by kernel_rfl) rfl rfl ⟨by omega, by omega⟩) ?_
      refine rt_v rfl rfl rfl (ov_load rfl Try.underlying2 rfl rfl (by exact (rowPos hrw hO22 5 rfl hjt.1.1 hjt.1.2 hm0 h1).trans (congrArg (fun x => some (iv x)) ((congrArg (fun a => HA.pos a m) (if_neg hni)).trans (tkG_pos X i m (glF l2 t)))))) ?_
      refine rt_v rfl rfl rfl (ov_move rfl rfl) <| rt_v rfl rfl rfl (ov_move rfl rfl) <| rt_v rfl rfl rfl (ov_mul rfl rfl rfl (by omega)) ?_
      refine rt_v rfl rfl rfl (ov_add rfl rfl rfl (by omega)) ?_
      refine rt_v rfl rfl rfl (ov_nil rfl rfl) <| rt_v rfl rfl rfl (ov_fieldS rfl Try.underlying127 rfl (fo := 2) rfl (by kernel_rfl) rfl) ?_
      refine rt_v rfl rfl rfl (ov_indexA1 rfl Try.underlying118 (by kernel_rfl) rfl rfl ⟨by omega, by omega⟩) ?_
      refine rt_nil <| rl_ow rfl (ow_storePos rfl rfl (by kernel_rfl) hO22 5 hrw rfl rfl hjt.1 ⟨hm0, h1⟩ rfl) ?_
      rintro _ w23 ⟨c2, rfl, hO24, hrw2, hs25⟩
      have hvt : (X.ac (glF l2 t)).pos m + s * out t = X.tkP i (glF l2 t) m := by rw [htkP _ hjt.1.1 hjt.1.2 hjw.2.2.2, ho1 t (by omega) h3]
      refine rl_nil <| run_inBlock <| run_region <| rl_v rfl rfl rfl (ov_add rfl rfl rfl (by omega)) ?_
      refine rl_v rfl rfl rfl (ov_move rfl rfl) <| rl_nil ?_
      refine Run.use (ih20 (t + 1) (n + 1) (c2) _ ?_ ?_) (And.intro (by exact slot_int rfl (by first | omega)) (And.intro rfl (And.intro rfl (And.intro rfl (And.intro rfl (And.intro rfl (And.intro rfl (And.intro rfl (And.intro rfl (And.intro rfl (And.intro rfl trivial)))))))))))
      ·first | omega | (dsimp only; omega)
      ·exact ⟨by omega, by omega, SRow.congr hrw2 (fun j _ _ => congrArg accL (take_step ht h3' hni hvt j)), hO24⟩
     ·obtain rfl : l2.length = n := by omega
      rw [List.take_length] at hrw
      have hni : (i - 1) ∉ l2 := fun h => by rw [hl2e] at h; exact (wt_ag (mem_filL h).1).2.2.2 rfl
      have hv0 : 0 = X.tkP i (i - 1) m := by unfold HM.tkP; rw [if_neg hx, if_pos rfl]
      refine run_exit rfl <| run_region <| rl_v rfl rfl rfl (ov_move rfl rfl) <| rl_v rfl rfl rfl (ov_move rfl rfl) <| rl_v rfl rfl rfl (ov_nil rfl rfl) <| rl_v rfl rfl rfl (ov_fieldS rfl Try.underlying127 rfl (fo := 2) rfl (by kernel_rfl) rfl) ?_
      refine rl_v rfl rfl rfl (ov_indexA1 rfl Try.underlying118 (by kernel_rfl) rfl rfl ⟨by omega, by omega⟩) ?_
      refine rl_ow rfl (ow_storePos rfl rfl (by kernel_rfl) hO6 5 hrw rfl rfl ⟨by omega, by omega⟩ ⟨hm0, h1⟩ rfl) ?_
      rintro _ w26 ⟨c3, rfl, hO27, hrw3, hs28⟩
      refine rl_nil <| run_inBlock <| run_region <| rl_v rfl rfl rfl (ov_add rfl rfl rfl (by omega)) ?_
      refine rl_v rfl rfl rfl (ov_move rfl rfl) <| rl_nil ?_
      refine Run.use (ih2 (m + 1) (c3) _ ?_ ?_) (And.intro (by exact slot_int rfl (by first | omega)) (And.intro rfl (And.intro rfl (And.intro rfl (And.intro rfl trivial)))))
      ·first | omega | (dsimp only; omega)
      ·exact ⟨by omega, SRow.congr hrw3 (fun j j0 j1 => congrArg accL (take_last hni hv0 j (fun c e => by rw [htkP j j0 j1 e, ho2 j (by rw [hl2e] at c ⊢; exact not_filL c), Int.mul_zero, Int.add_zero]))), hO27.tail.tail.tail.tail⟩
 ·obtain rfl : m = 12 := by omega
  refine run_exit rfl <| run_end Try.func67 (res0 Try.results67) ?_
  exact ⟨rfl, c, hrw, hO1⟩
end Go.Proofs.Ytfbbagnpdfafjaa
