import Derived.Test.YtfbbagnpdfafjaaHaN
set_option maxRecDepth 100000
namespace Go.Proofs.Ytfbbagnpdfafjaa
open Go.RowKit Go.Proofs
structure Fld (f : FuncId) (fo : Nat) (get : HA → Int) (set : HA → Int → HA) : Prop where
 lt : fo < 15
 call : ∀ ab j w, Calls Try.prog f #[accP ab j] w fun e w' => e = .returned (.pointer (some ⟨ab, 0 + j.toNat * 15 + fo, none⟩)) ∧ w' = w
 get : ∀ a, (accL a).getD fo undef = iv (get a)
 set : ∀ a x, (accL a).set fo (iv x) = accL (set a x)
def HM.spW (X : HM) (get : HA → Int) (i j : Int) : Int := if X.othP i j = true then max 0 (get (X.ac j)) else 0
def HM.spT (X : HM) (get : HA → Int) (i x : Int) : Int := min x (sm (X.spW get i) X.mem)
noncomputable def HM.spU (X : HM) (get : HA → Int) (set : HA → Int → HA) (i x j : Int) : HA := set (X.ac j) (get (X.ac j) - shF (X.spT get i x) X.mem (X.spW get i) j)
noncomputable def HM.spA (X : HM) (get : HA → Int) (set : HA → Int → HA) (i x j : Int) : HA := if X.othP i j = true then X.spU get set i x j else X.ac j
theorem spW_nonneg (X : HM) (get : HA → Int) (i j : Int) : 0 ≤ X.spW get i j := by unfold HM.spW; split; exact Int.le_max_left _ _; exact Int.le_refl _
theorem take_set {U V : Int → HA} {t : Int} {l : List Int} {n : Nat} (ht : t = n) (hn : n < l.length) (hni : glF l t ∉ l.take n) (j : Int) :
  upd (fun j => if j ∈ l.take n then U j else V j) (glF l t) (U (glF l t)) j = if j ∈ l.take (n + 1) then U j else V j := by
 have hm := mem_take hn j
 rw [← ht] at hm
 by_cases e : j = glF l t
 ·rw [e, upd_same, if_pos (by rw [← e]; exact hm.2 (.inr e))]
 ·rw [upd_ne _ _ e]
  by_cases c : j ∈ l.take n
  ·rw [if_pos c, if_pos (hm.2 (.inl c))]
  ·rw [if_neg c, if_neg (fun h => (hm.1 h).elim c e)]
theorem mem_filL_iff {P : Int → Bool} {n : Nat} {j : Int} (j0 : 0 ≤ j) (j1 : j < n) : j ∈ filL P n ↔ P j = true := by
 refine ⟨fun h => (mem_filL h).1, fun h => ?_⟩
 obtain ⟨t, t0, t1, e⟩ := filL_onto P n j j0 j1 h
 refine Classical.byContradiction fun hx => ?_
 exact not_filL hx t t0 t1 e
theorem spread_any (f : FuncId) (fo : Nat) (get : HA → Int) (set : HA → Int → HA) (hF : Fld f fo get set) (hcl : Callable Try.prog f) (hb B : Nat) (X : HM) (K : HK) (i x : Int) (N H : List (Option Blk)) (w0 w : World) (hO : Own B w0 w H) (k kb : Nat)
  (hk : ∀ c, (H.set kb c)[k]? = some (houB hb (X.r K))) (hkb : ∀ c, (H.set kb c)[kb]? = some c) (hs : H.set kb K.blk = H) (hK : HOk X K N) (hm20 : X.mem < 20) (hi : 1 ≤ i ∧ i ≤ X.mem) (hg : ∀ j : Int, 0 ≤ j → j < X.mem → (get (X.ac j)).natAbs ≤ 20000000000000000) (hx : 0 ≤ x ∧ x ≤ 9000000000000000000) :
  Calls Try.prog 113 #[ptr hb, iv i, iv x, .func (.func f) #[] #[]] w fun e w' => e = .returned (iv (X.spT get i x)) ∧ ∃ c, AccRow K.ab X.mem K.acap (X.spA get set i x) c ∧ Own B w0 w' (H.set kb c) := by
 have hk0 : H[k]? = some (houB hb (X.r K)) := by have := hk K.blk; rwa [hs] at this
 have hkb0 : H[kb]? = some K.blk := by have := hkb K.blk; rwa [hs] at this
 have hWn := spW_nonneg X get i
 refine calls_of_run (F := [(0, _), (1, _), (2, _), (3, _)]) Try.func113 rfl Try.ntmps113 rfl rfl <| run_seq <| run_region <| rl_v rfl rfl rfl (ov_assign rfl rfl) <| rl_nil <| run_seq <| run_region <| rl_v rfl rfl rfl (ov_move rfl rfl) <| rl_v rfl rfl rfl (ov_move rfl rfl) ?_
 refine rl_call callable_111 rfl rfl rfl rfl rfl rfl (others_any hb B X K i N _ w0 w hO k kb hk0 hkb0 hK (by omega) hi) (fun e1 w2 hp3 => ?_)
 obtain ⟨vo, co, rfl, hro, hO1⟩ := hp3
 refine ⟨_, rfl, ?_⟩
 obtain ⟨lo, hlo⟩ : ∃ lo, lo = filL (X.othP i) X.mem := ⟨_, rfl⟩
 rw [← hlo] at hro
 obtain ⟨ao, xo, rfl⟩ := hro.val
 have hlol : lo.length ≤ X.mem := by rw [hlo]; exact filL_len _ _
 have hin : ∀ t : Int, 0 ≤ t → t < lo.length → (0 ≤ glF lo t ∧ glF lo t < X.mem) ∧ X.othP i (glF lo t) = true := fun t t0 t1 => by rw [hlo] at t1 ⊢; exact filL_in _ _ t t0 t1
 have hWt : ∀ t : Int, 0 ≤ t → t < lo.length → X.spW get i (glF lo t) = max 0 (get (X.ac (glF lo t))) := fun t t0 t1 => if_pos (hin t t0 t1).2
 have hWb : ∀ t : Int, 0 ≤ t → t < lo.length → 0 ≤ X.spW get i (glF lo t) ∧ X.spW get i (glF lo t) ≤ 20000000000000000 := fun t t0 t1 => by
  have h1 := hg _ (hin t t0 t1).1.1 (hin t t0 t1).1.2
  rw [hWt t t0 t1]
  omega
 have hsb : ∀ t : Int, 0 ≤ t → t ≤ lo.length → 0 ≤ sm (fun t => X.spW get i (glF lo t)) t ∧ sm (fun t => X.spW get i (glF lo t)) t ≤ t * 20000000000000000 := fun t t0 t1 => ⟨sm_nonneg fun s s0 s1 => (hWb s s0 (by omega)).1, sm_bound _ t0 fun s s0 s1 => (hWb s s0 (by omega)).2⟩
 refine rl_v rfl rfl rfl (ov_assign rfl rfl) <| rl_nil <| run_seq <| run_region <| rl_v rfl rfl rfl (ov_assign rfl rfl) <| rl_nil <| run_seq <| run_region <| rl_v rfl rfl rfl (ov_assign rfl rfl) <| rl_nil <| run_seq <| run_seq <| run_region <| rl_v rfl rfl rfl (ov_move rfl rfl) <| rl_v rfl rfl rfl (ov_len rfl Try.underlying209 rfl) <| rl_v rfl rfl rfl (ov_move rfl rfl) <| rl_nil <| run_block <| Run.keep [2, 3, 9, 10, 11, 21, 22, 23] (F' := [(2, _), (3, _), (9, _), (10, _), (11, _), (21, _), (22, _), (23, _)]) rfl <| run_loop4 (fun (t : Int) (n : Nat) (vw : Value) (cw : Option Blk) => [(10, vw), (11, .int .i64 (sm (fun t => X.spW get i (glF lo t)) t)), (23, .int .i64 t)]) [2, 3, 9, 21, 22] (fun (t : Int) (n : Nat) (vw : Value) (cw : Option Blk) (w4 : World) => t = n ∧ n ≤ lo.length ∧ IRow vw 2 n (fun t => iv (X.spW get i (glF lo t))) cw ∧ Own B w0 w4 (cw :: co :: H)) (fun (t : Int) (n : Nat) (vw : Value) (cw : Option Blk) => lo.length - n) (0) (0) (.slice none 0 0) (none) ?_ (And.intro rfl (And.intro (by rfl) (And.intro (by exact slot_int rfl (by first | omega)) (And.intro rfl (And.intro rfl (And.intro rfl (And.intro rfl (And.intro rfl trivial)))))))) ?_
 ·exact ⟨rfl, by omega, IRow.nil _ _, hO1.nil_cons⟩
 intro t n vw cw w4 hIw4 ih5
 obtain ⟨ht, hn, hrv, hO2⟩ := hIw4
 show Run _ _ _ _ [(10, _), (11, _), (23, _), (2, _), (3, _), (9, _), (21, _), (22, _)] _ _
 refine run_seq <| run_region <| rl_v rfl rfl rfl (ov_lss rfl rfl rfl) <| rl_nil <| run_seq ?_
 first | refine run_cond_dec rfl (fun h1 => ?_) (fun h1 => ?_) | refine run_cond rfl (fun h1 => ?_) (fun h1 => ?_)
 ·have hjt := hin t (by omega) (by omega)
  have hwt := hWt t (by omega) (by omega)
  have hwb := hWb t (by omega) (by omega)
  have hst := hsb t (by omega) (by omega)
  have hsu := sm_succ (fun t => X.spW get i (glF lo t)) (k := t) (by omega)
  have hgj := hg _ hjt.1.1 hjt.1.2
  obtain ⟨bo, hbo, hrdo⟩ := hro.openZ (by omega)
  have hbof := fun (_ : True) => hbo
  refine run_skip <| run_seq <| run_block <| run_seq <| run_region <| rl_v rfl rfl rfl (ov_index1 rfl Try.underlying209 (by kernel_rfl) rfl rfl ⟨by omega, by omega⟩ (by exact (hbof trivial))) ?_
  refine rl_v rfl rfl rfl (ov_load rfl Try.underlying125 rfl rfl (by exact hrdo hO2 1 rfl t (by omega) (by omega))) ?_
  refine rl_v rfl rfl rfl (ov_assign rfl rfl) <| rl_nil <| run_seq <| run_region <| rl_v rfl rfl rfl (ov_move rfl rfl) <| rl_v rfl rfl rfl (ov_move rfl rfl) ?_
  refine rl_call hcl rfl rfl rfl rfl rfl rfl (hF.call K.ab (glF lo t) w4) (fun e6 w7 hp8 => ?_)
  obtain ⟨rfl, hw⟩ := hp8
  refine ⟨_, rfl, ?_⟩
  subst hw
  refine rl_v rfl rfl rfl (ov_nil rfl rfl) <| rl_v rfl rfl rfl (ov_load rfl Try.underlying2 rfl rfl (by exact (rowRd hK.acc hO2 (kb + 2) hkb0 hjt.1.1 hjt.1.2 fo hF.lt).trans (congrArg some (hF.get _)))) ?_
  refine rl_v rfl rfl rfl (ov_max rfl rfl rfl) <| rl_v rfl rfl rfl (ov_assign rfl rfl) <| rl_nil <| run_region <| rl_v rfl rfl rfl (ov_move rfl rfl) <| rl_v rfl rfl rfl (ov_move rfl rfl) ?_
  refine rl_appI rfl rfl rfl rfl rfl rfl rfl rfl Try.underlying22 info_2 rfl hO2 0 hrv rfl rfl rfl ⟨by omega, by omega⟩ (fun vw2 cw2 w9 hO10 hrv2 hs11 => ?_)
  refine rl_v rfl rfl rfl (ov_move rfl rfl) <| rl_v rfl rfl rfl (ov_move rfl rfl) <| rl_v rfl rfl rfl (ov_add rfl rfl rfl (by omega)) ?_
  refine rl_v rfl rfl rfl (ov_assign rfl rfl) <| rl_v rfl rfl rfl (ov_assign rfl rfl) <| rl_nil <| run_inBlock <| run_region <| rl_v rfl rfl rfl (ov_add rfl rfl rfl (by omega)) ?_
  refine rl_v rfl rfl rfl (ov_move rfl rfl) <| rl_nil ?_
  refine Run.use (ih5 (t + 1) (n + 1) (vw2) (cw2) _ ?_ ?_) (And.intro rfl (And.intro (by exact slot_int rfl (by first | omega)) (And.intro (by exact slot_int rfl (by first | omega)) (And.intro rfl (And.intro rfl (And.intro rfl (And.intro rfl (And.intro rfl trivial))))))))
  ·first | omega | (dsimp only; omega)
  ·exact ⟨by omega, by omega, hrv2.congr fun s _ _ => (by unfold upd; split; (rename_i e; rw [e, ← ht, hwt]); rfl), hO10⟩
 ·obtain rfl : lo.length = n := by omega
  obtain rfl := ht
  obtain ⟨aw, xw, rfl⟩ := hrv.val
  have hst := hsb lo.length (by omega) (by omega)
  have esum : sm (X.spW get i) X.mem = sm (fun t => X.spW get i (glF lo t)) lo.length := by
   rw [hlo]
   exact filL_sum _ _ _ fun j _ _ hp => if_neg (by rw [hp]; exact Bool.noConfusion)
  have eT : X.spT get i x = min x (sm (fun t => X.spW get i (glF lo t)) lo.length) := by unfold HM.spT; rw [esum]
  refine run_exit rfl <| run_seq <| run_region <| rl_v rfl rfl rfl (ov_move rfl rfl) <| rl_v rfl rfl rfl (ov_move rfl rfl) <| rl_v rfl rfl rfl (ov_min rfl rfl rfl) <| rl_v rfl rfl rfl (ov_assign rfl rfl) <| rl_nil <| run_seq <| run_seq <| run_region <| rl_v rfl rfl rfl (ov_move rfl rfl) <| rl_v rfl rfl rfl (ov_move rfl rfl) ?_
  refine rl_call callable_112 rfl rfl rfl rfl rfl rfl (dealt_any (min x (sm (fun t => X.spW get i (glF lo t)) lo.length)) aw lo.length xw B (fun t => X.spW get i (glF lo t)) _ w0 w4 hO2 (fun _ _ _ hO => hrv.reads hO 0 rfl) (by omega) (fun t t0 t1 => by have := hWb t t0 t1; omega) ⟨by omega, by omega⟩) (fun e12 w13 hp14 => ?_)
  obtain ⟨bd, out, rfl, hshr, hO5⟩ := hp14
  refine ⟨_, rfl, ?_⟩
  have hout := hshr.rng (by omega) fun t t0 t1 => (hWb t t0 t1).1
  obtain ⟨o', ho1, ho2⟩ := spreadOut hlo out
  have htk : ∀ j : Int, 0 ≤ j → j < X.mem → shF (X.spT get i x) X.mem (X.spW get i) j = o' j := by
   rw [eT]
   rw [hlo] at hshr ho1 ho2 ⊢
   exact shF_eq (Shr.embed (P := X.othP i) (by rw [← hlo]; omega) (fun j _ _ => hWn j) (fun j _ _ hp => if_neg (by rw [hp]; exact Bool.noConfusion)) hshr ho1 fun j j0 j1 hp => ho2 j fun t t0 t1 e => by
    have := (filL_in (X.othP i) X.mem t t0 t1).2
    rw [e, hp] at this
    cases this)
  have hbase : Own B w0 w13 (some (vch bd 2 lo.length (fun t => iv (out t))) :: cw :: co :: H.set kb K.blk) := by rw [hs]; exact hO5
  refine rl_v rfl rfl rfl (ov_len rfl Try.underlying22 rfl) <| rl_v rfl rfl rfl (ov_move rfl rfl) <| rl_nil <| run_block <| Run.keep [3, 9, 15, 46, 47, 48] (F' := [(3, _), (9, _), (15, _), (46, _), (47, _), (48, _)]) rfl <| run_loop3 (fun (t : Int) (n : Nat) (c : Option Blk) => [(48, .int .i64 t)]) [3, 9, 15, 46, 47] (fun (t : Int) (n : Nat) (c : Option Blk) (w15 : World) => t = n ∧ n ≤ lo.length ∧ AccRow K.ab X.mem K.acap (fun j => if j ∈ lo.take n then X.spU get set i x j else X.ac j) c ∧ Own B w0 w15 (some (vch bd 2 lo.length (fun t => iv (out t))) :: cw :: co :: H.set kb c)) (fun (t : Int) (n : Nat) (c : Option Blk) => lo.length - n) (0) (0) (K.blk) ?_ (And.intro (by exact slot_int rfl (by first | omega)) (And.intro rfl (And.intro rfl (And.intro rfl (And.intro rfl (And.intro rfl trivial)))))) ?_
  ·exact ⟨rfl, by omega, SRow.congr hK.acc (fun j _ _ => by simp), hbase⟩
  intro t n c w15 hIw15 ih16
  obtain ⟨ht, hn, hrw, hO6⟩ := hIw15
  show Run _ _ _ _ [(48, _), (3, _), (9, _), (15, _), (46, _), (47, _)] _ _
  refine run_seq <| run_region <| rl_v rfl rfl rfl (ov_lss rfl rfl rfl) <| rl_nil <| run_seq ?_
  first | refine run_cond_dec rfl (fun h3 => ?_) (fun h3 => ?_) | refine run_cond rfl (fun h3 => ?_) (fun h3 => ?_)
  ·have h3' : n < lo.length := by omega
   have hjt := hin t (by omega) h3
   have hgj := hg _ hjt.1.1 hjt.1.2
   have hot := hout t (by omega) h3
   have hni : glF lo t ∉ lo.take n := by rw [ht, hlo]; exact filL_notin (by rw [← hlo]; exact h3')
   have hGt : (if glF lo t ∈ lo.take n then X.spU get set i x (glF lo t) else X.ac (glF lo t)) = X.ac (glF lo t) := if_neg hni
   have hsx : (accL (X.ac (glF lo t))).set fo (iv (get (X.ac (glF lo t)) - out t)) = accL (X.spU get set i x (glF lo t)) := by
    rw [hF.set]
    unfold HM.spU
    rw [htk _ hjt.1.1 hjt.1.2, ho1 t (by omega) h3]
   obtain ⟨bo, hbo, hrdo⟩ := hro.openZ (by omega)
   have hbof := fun (_ : True) => hbo
   refine run_skip <| run_seq <| run_block <| run_seq <| run_region <| rl_v rfl rfl rfl (ov_move rfl rfl) <| rl_v rfl rfl rfl (ov_index1 rfl Try.underlying22 (by kernel_rfl) rfl rfl ⟨by omega, by omega⟩ (by rfl)) ?_
   refine rl_v rfl rfl rfl (ov_load rfl Try.underlying2 rfl rfl (by exact hO6.cellI 0 rfl t (by omega) (by omega))) ?_
   refine rl_v rfl rfl rfl (ov_assign rfl rfl) <| rl_v rfl rfl rfl (ov_assign rfl rfl) <| rl_nil <| run_region <| rl_v rfl rfl rfl (ov_move rfl rfl) <| rl_v rfl rfl rfl (ov_move rfl rfl) <| rl_v rfl rfl rfl (ov_move rfl rfl) <| rl_v rfl rfl rfl (ov_index1 rfl Try.underlying209 (by kernel_rfl) rfl rfl ⟨by omega, by omega⟩ (by exact (hbof trivial))) ?_
   refine rl_v rfl rfl rfl (ov_load rfl Try.underlying125 rfl rfl (by exact hrdo hO6 2 rfl t (by omega) (by omega))) ?_
   refine rl_call hcl rfl rfl rfl rfl rfl rfl (hF.call K.ab (glF lo t) w15) (fun e17 w18 hp19 => ?_)
   obtain ⟨rfl, hw⟩ := hp19
   refine ⟨_, rfl, ?_⟩
   subst hw
   refine rl_v rfl rfl rfl (ov_nil rfl rfl) <| rl_v rfl rfl rfl (ov_load rfl Try.underlying2 rfl rfl (by exact (rowRd hrw hO6 (kb + 3) (hkb _) hjt.1.1 hjt.1.2 fo hF.lt).trans (congrArg some ((congrArg (fun a => (accL a).getD fo undef) hGt).trans (hF.get _))))) ?_
   refine rl_v rfl rfl rfl (ov_move rfl rfl) <| rl_v rfl rfl rfl (ov_sub rfl rfl rfl (by omega)) ?_
   refine rl_v rfl rfl rfl (ov_nil rfl rfl) <| rl_ow rfl (ow_storeFld (a' := X.spU get set i x (glF lo t)) rfl rfl (by kernel_rfl) hO6 (kb + 3) hrw (hkb _) rfl hjt.1 hF.lt rfl rfl (by rw [hGt]; exact hsx)) ?_
   rintro _ w20 ⟨c2, rfl, hO21, hrw2, hs22⟩
   have hO7 : Own B w0 w20 (some (vch bd 2 lo.length (fun t => iv (out t))) :: cw :: co :: H.set kb c2) := by
    have h := hO21
    simp only [List.set_cons_succ, List.set_set] at h
    exact h
   refine rl_nil <| run_inBlock <| run_region <| rl_v rfl rfl rfl (ov_add rfl rfl rfl (by omega)) ?_
   refine rl_v rfl rfl rfl (ov_move rfl rfl) <| rl_nil ?_
   refine Run.use (ih16 (t + 1) (n + 1) (c2) _ ?_ ?_) (And.intro (by exact slot_int rfl (by first | omega)) (And.intro rfl (And.intro rfl (And.intro rfl (And.intro rfl (And.intro rfl trivial))))))
   ·first | omega | (dsimp only; omega)
   ·exact ⟨by omega, by omega, SRow.congr hrw2 (fun j _ _ => congrArg accL (take_set ht h3' hni j)), hO7⟩
  ·obtain rfl : lo.length = n := by omega
   rw [List.take_length] at hrw
   have hfin : ∀ j : Int, 0 ≤ j → j < X.mem → (if j ∈ lo then X.spU get set i x j else X.ac j) = X.spA get set i x j := fun j j0 j1 => by
    unfold HM.spA
    rw [hlo]
    by_cases cc : X.othP i j = true
    ·rw [if_pos cc, if_pos ((mem_filL_iff j0 j1).2 cc)]
    ·rw [if_neg cc, if_neg (fun h => cc ((mem_filL_iff j0 j1).1 h))]
   refine run_exit rfl <| run_seq <| run_region <| rl_v rfl rfl rfl (ov_move rfl rfl) <| rl_v rfl rfl rfl (ov_assign rfl rfl) <| rl_nil <| run_ret Try.func113 (res1 Try.results113 rfl) ?_
   exact ⟨by rw [eT], c, SRow.congr hrw (fun j j0 j1 => congrArg accL (hfin j j0 j1)), hO6.tail.tail.tail⟩
theorem fldFund : Fld 114 1 HA.fund (fun a x => { a with fund := x }) := ⟨by decide, fund_any, fun _ => rfl, fun _ _ => rfl⟩
theorem fldCash : Fld 115 0 HA.cash (fun a x => { a with cash := x }) := ⟨by decide, cash_any, fun _ => rfl, fun _ _ => rfl⟩
end Go.Proofs.Ytfbbagnpdfafjaa
