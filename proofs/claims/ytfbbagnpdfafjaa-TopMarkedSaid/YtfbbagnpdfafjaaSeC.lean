import Derived.Test.YtfbbagnpdfafjaaSeM
set_option maxRecDepth 100000
namespace Go.Proofs.Ytfbbagnpdfafjaa
open Go.RowKit Go.Proofs
def burnt : List PanicEntry := [{ v := .iface 257 (.agg #[]), recovered := false }]
theorem Lg.write_a {l : Lg} (r : Rc) (h : ¬ 0 < l.fuse) : l.write r = ⟨l.recs ++ [r], l.recs.length + 1, l.fuse, l.down⟩ ∧ l.syncs = true := by
 unfold Lg.write Lg.syncs
 rw [if_neg h, decide_eq_false (by omega)]
 exact ⟨rfl, rfl⟩
theorem Lg.write_b {l : Lg} (r : Rc) (h : 0 < l.fuse) (h2 : ¬ l.fuse - 1 = 0) : l.write r = ⟨l.recs ++ [r], l.recs.length + 1, l.fuse - 1, l.down⟩ ∧ l.syncs = true := by
 unfold Lg.write Lg.syncs
 rw [if_pos h, if_neg h2, decide_eq_false (by omega)]
 exact ⟨rfl, rfl⟩
theorem Lg.write_c {l : Lg} (r : Rc) (h : 0 < l.fuse) (h2 : l.fuse - 1 = 0) : l.write r = ⟨l.recs ++ [r], l.safe, l.fuse - 1, true⟩ ∧ l.syncs = false := by
 unfold Lg.write Lg.syncs
 rw [if_pos h, if_pos h2, decide_eq_true (by omega), h2]
 exact ⟨rfl, rfl⟩
theorem Lg.write_recs (l : Lg) (r : Rc) : (l.write r).recs = l.recs ++ [r] := by
 unfold Lg.write
 split
 ·split <;> rfl
 ·rfl
def Burns (s : Bool) (e : Ending) (p : Prop) : Prop := (e = .returned (.tuple #[]) ∧ s = true ∧ p) ∨ (e = .panicked burnt ∧ s = false ∧ p)
theorem write_front (b : Nat) (t : TypeId) (rv : Value) (rest : List Value) (l : Lg) (r : Rc) (B : Nat) (H N : List (Option Blk)) (w0 w : World) (hl : l.recs.length ≤ 1000000) (hfu : l.fuse ≤ 9223372036854775807)
  (hO : Own B w0 w (some (lch b t (lcells rv l rest)) :: H)) (hr : PRow N rv 2 l.recs.length (cnt rcl (0, 0) l.recs)) (hN : ∀ x ∈ N, x ∈ H) :
  Calls Try.prog 177 #[ptr b, iv r.1, iv r.2] w fun e w' =>
   Burns l.syncs e (∃ rv' blk, Own B w0 w' (some blk :: some (lch b t (lcells rv' (l.write r) rest)) :: H) ∧ SRow rv' 244 2 (l.recs.length + 1) (upd (cnt rcl (0, 0) l.recs) l.recs.length (rcl r)) (some blk)) := by
 obtain ⟨ao, cap, hrv, hcap⟩ := hr.val
 rw [hrv] at hr
 obtain ⟨gb, hga, hrow⟩ := hr.open
 refine calls_of_run (F := [(0, _), (1, _), (2, _)]) Try.func177 rfl Try.ntmps177 rfl rfl <| run_seq <| run_region <| rl_v rfl rfl rfl (ov_move rfl rfl) <| rl_v rfl rfl rfl (ov_nil rfl rfl) <| rl_v rfl rfl rfl (ov_fieldS rfl Try.underlying189 rfl (fo := 0) rfl (by kernel_rfl) rfl) ?_
 refine rl_v rfl rfl rfl (ov_load rfl Try.underlying187 rfl rfl (by exact hO.cellL 0 rfl (congrArg some hrv))) ?_
 refine rl_v rfl rfl rfl (ov_len rfl Try.underlying187 rfl) <| rl_v rfl rfl rfl (ov_assign rfl rfl) <| rl_nil <| run_seq <| run_region <| rl_v rfl rfl rfl (ov_move rfl rfl) <| rl_v rfl rfl rfl (ov_move rfl rfl) <| rl_v rfl rfl rfl (ov_nil rfl rfl) <| rl_v rfl rfl rfl (ov_fieldS rfl Try.underlying189 rfl (fo := 0) rfl (by kernel_rfl) rfl) ?_
 refine rl_v rfl rfl rfl (ov_load rfl Try.underlying187 rfl rfl (by exact hO.cellL 0 rfl (congrArg some hrv))) ?_
 refine rl_v rfl rfl rfl (ov_move rfl rfl) <| rl_v rfl rfl rfl (ov_move rfl rfl) <| rl_v rfl rfl rfl (ov_slice3 l.recs.length rfl Try.underlying187 (by kernel_rfl) (s := 2) rfl rfl rfl rfl rfl (by omega)) ?_
 refine rl_v rfl rfl rfl (ov_move rfl rfl) <| rl_v rfl rfl rfl (ov_move rfl rfl) <| rl_v rfl rfl rfl (ov_buildL rfl lay_244 rfl (us := [_, _]) rfl) <| rl_ow rfl (ow_build [_] rfl rfl rfl rfl rfl Try.underlying187 info_244 (by decide) hO rfl rfl) ?_
 rintro _ w1 ⟨b23, rfl, hO2, hs3⟩
 refine rl_ow rfl (ow_appG rfl rfl rfl Try.underlying187 info_244 rfl rfl hO2 rfl rfl rfl hga (hrow hO2.tail (mem_c1 hN)) ⟨by omega, by omega⟩) ?_
 rintro _ w4 ⟨v24, blk, rfl, hO5, hr24, hs6⟩
 obtain ⟨a24, c24, rfl⟩ := hr24.val
 refine rl_v rfl rfl rfl (ov_nil rfl rfl) <| rl_v rfl rfl rfl (ov_fieldS rfl Try.underlying189 rfl (fo := 0) rfl (by kernel_rfl) rfl) ?_
 refine rl_ow rfl (ow_storeL rfl rfl (by kernel_rfl) hO5 1 rfl rfl rfl rfl rfl) ?_
 rintro _ w7 ⟨rfl, hO8, hs9⟩
 refine rl_nil <| run_seq <| run_seq <| run_region <| rl_v rfl rfl rfl (ov_move rfl rfl) <| rl_v rfl rfl rfl (ov_nil rfl rfl) <| rl_v rfl rfl rfl (ov_fieldS rfl Try.underlying189 rfl (fo := 2) rfl (by kernel_rfl) rfl) ?_
 refine rl_v rfl rfl rfl (ov_load rfl Try.underlying3 rfl rfl (by exact hO8.cellL 1 rfl rfl)) ?_
 refine rl_v rfl rfl rfl (ov_gtr rfl rfl rfl) <| rl_nil ?_
 first | refine run_cond_dec rfl (fun hq => ?_) (fun hq2 => ?_) | refine run_cond rfl (fun hq => ?_) (fun hq2 => ?_)
 ·refine run_seq <| run_region <| rl_v rfl rfl rfl (ov_move rfl rfl) <| rl_v rfl rfl rfl (ov_nil rfl rfl) <| rl_v rfl rfl rfl (ov_fieldS rfl Try.underlying189 rfl (fo := 2) rfl (by kernel_rfl) rfl) ?_
  refine rl_v rfl rfl rfl (ov_load rfl Try.underlying3 rfl rfl (by exact hO8.cellL 1 rfl rfl)) ?_
  refine rl_v rfl rfl rfl (ov_sub rfl rfl rfl (by omega)) ?_
  refine rl_v rfl rfl rfl (ov_nil rfl rfl) <| rl_v rfl rfl rfl (ov_fieldS rfl Try.underlying189 rfl (fo := 2) rfl (by kernel_rfl) rfl) ?_
  refine rl_ow rfl (ow_storeL rfl rfl (by kernel_rfl) hO8 1 rfl rfl rfl rfl rfl) ?_
  rintro _ w10 ⟨rfl, hO11, hs12⟩
  refine rl_nil <| run_seq <| run_region <| rl_v rfl rfl rfl (ov_move rfl rfl) <| rl_v rfl rfl rfl (ov_nil rfl rfl) <| rl_v rfl rfl rfl (ov_fieldS rfl Try.underlying189 rfl (fo := 2) rfl (by kernel_rfl) rfl) ?_
  refine rl_v rfl rfl rfl (ov_load rfl Try.underlying3 rfl rfl (by exact hO11.cellL 1 rfl rfl)) ?_
  refine rl_v rfl rfl rfl (ov_eql rfl rfl rfl) <| rl_nil ?_
  first | refine run_cond_dec rfl (fun hz => ?_) (fun hz2 => ?_) | refine run_cond rfl (fun hz => ?_) (fun hz2 => ?_)
  ·refine run_seq <| run_region <| rl_v rfl rfl rfl (ov_move rfl rfl) <| rl_v rfl rfl rfl (ov_nil rfl rfl) <| rl_v rfl rfl rfl (ov_fieldS rfl Try.underlying189 rfl (fo := 3) rfl (by kernel_rfl) rfl) ?_
   refine rl_ow rfl (ow_storeL rfl rfl (by kernel_rfl) hO11 1 rfl rfl rfl rfl rfl) ?_
   rintro _ w13 ⟨rfl, hO14, hs15⟩
   obtain ⟨e1, e2⟩ := Lg.write_c (l := l) r hq hz
   refine rl_nil <| run_region <| rl_v rfl rfl rfl (ov_buildL rfl lay_257 rfl (us := []) rfl) <| rl_v rfl rfl rfl (ov_iface rfl Try.underlying257 (by intro _ h; cases h) rfl) ?_
   exact rl_panic rfl rfl rfl ⟨_, Try.func177⟩ (.inr ⟨rfl, e2, _, blk, by rw [e1]; exact hO14, hr24⟩)
  ·refine run_skip <| run_region <| rl_v rfl rfl rfl (ov_move rfl rfl) <| rl_v rfl rfl rfl (ov_move rfl rfl) <| rl_v rfl rfl rfl (ov_nil rfl rfl) <| rl_v rfl rfl rfl (ov_fieldS rfl Try.underlying189 rfl (fo := 0) rfl (by kernel_rfl) rfl) ?_
   refine rl_v rfl rfl rfl (ov_load rfl Try.underlying187 rfl rfl (by exact hO11.cellL 1 rfl rfl)) ?_
   refine rl_v rfl rfl rfl (ov_len rfl Try.underlying187 rfl) <| rl_v rfl rfl rfl (ov_nil rfl rfl) <| rl_v rfl rfl rfl (ov_fieldS rfl Try.underlying189 rfl (fo := 1) rfl (by kernel_rfl) rfl) ?_
   refine rl_ow rfl (ow_storeL rfl rfl (by kernel_rfl) hO11 1 rfl rfl rfl rfl rfl) ?_
   rintro _ w16 ⟨rfl, hO17, hs18⟩
   obtain ⟨e1, e2⟩ := Lg.write_b (l := l) r hq hz2
   refine rl_nil <| run_end Try.func177 (res0 Try.results177) ?_
   exact .inl ⟨rfl, e2, _, blk, by rw [e1]; exact hO17, hr24⟩
 ·refine run_skip <| run_region <| rl_v rfl rfl rfl (ov_move rfl rfl) <| rl_v rfl rfl rfl (ov_move rfl rfl) <| rl_v rfl rfl rfl (ov_nil rfl rfl) <| rl_v rfl rfl rfl (ov_fieldS rfl Try.underlying189 rfl (fo := 0) rfl (by kernel_rfl) rfl) ?_
  refine rl_v rfl rfl rfl (ov_load rfl Try.underlying187 rfl rfl (by exact hO8.cellL 1 rfl rfl)) ?_
  refine rl_v rfl rfl rfl (ov_len rfl Try.underlying187 rfl) <| rl_v rfl rfl rfl (ov_nil rfl rfl) <| rl_v rfl rfl rfl (ov_fieldS rfl Try.underlying189 rfl (fo := 1) rfl (by kernel_rfl) rfl) ?_
  refine rl_ow rfl (ow_storeL rfl rfl (by kernel_rfl) hO8 1 rfl rfl rfl rfl rfl) ?_
  rintro _ w19 ⟨rfl, hO20, hs21⟩
  obtain ⟨e1, e2⟩ := Lg.write_a (l := l) r hq2
  refine rl_nil <| run_end Try.func177 (res0 Try.results177) ?_
  exact .inl ⟨rfl, e2, _, blk, by rw [e1]; exact hO20, hr24⟩
theorem write_any (A : WA) (X : MW) (n : Int) (r : Rc) (B : Nat) (Pl R : List (Option Blk)) (w0 w : World) (hn : n = 0 ∨ n = 1 ∨ n = 2) (hl : (X.lg n).recs.length ≤ 1000000) (hfu : (X.lg n).fuse ≤ 9223372036854775807) (h : WAt B w0 w A X Pl R) :
  Calls Try.prog 177 #[ptr (A.node n), iv r.1, iv r.2] w fun e w' => Burns (X.ok n) e (WAt B w0 w' A (X.wr n r) Pl R) := by
 obtain ⟨K, N, hO, hK, hPl⟩ := h
 obtain ⟨k, t, rv, rest, hk4, hk, hr, hset, hok⟩ := hK.node A hn
 have hO1 := hO.perm (perm_front (hk (N ++ R)))
 have hlen : k < (K.M A X ++ (N ++ R)).length := (List.getElem?_eq_some_iff.1 (hk (N ++ R))).1
 refine (write_front (A.node n) t rv rest (X.lg n) r B _ N w0 w hl hfu hO1 hr (mem_erase hk4)).mono fun e w' hb => ?_
 have key : (∃ rv' blk, Own B w0 w' (some blk :: some (lch (A.node n) t (lcells rv' ((X.lg n).write r) rest)) :: (K.M A X ++ (N ++ R)).eraseIdx k) ∧ SRow rv' 244 2 ((X.lg n).recs.length + 1) (upd (cnt rcl (0, 0) (X.lg n).recs) (X.lg n).recs.length (rcl r)) (some blk)) → WAt B w0 w' A (X.wr n r) Pl R := by
  rintro ⟨rv', blk, hO2, hr2⟩
  have hO3 := hO2.perm ((perm_back (some (lch (A.node n) t (lcells rv' ((X.lg n).write r) rest))) hlen).cons (some blk))
  rw [hset] at hO3
  refine ⟨K.setR n rv', some blk :: N, hO3.perm (perm_mid _ _ _), hok _ _ _ (mem_c1 fun x hx => hx) ?_, fun x hx => List.mem_cons_of_mem _ (hPl x hx)⟩
  have h5 := PRow.of_row (N := some blk :: N) hr2 (List.mem_cons_self ..)
  rw [Lg.write_recs, List.length_append]
  exact h5.congr fun i h0 h1 => cnt_app rcl (0, 0) (X.lg n).recs r i h0 (by omega)
 rcases hb with ⟨h1, h2, h3⟩ | ⟨h1, h2, h3⟩
 ·exact .inl ⟨h1, h2, key h3⟩
 ·exact .inr ⟨h1, h2, key h3⟩
def MsOk (X : MW) (m : Ms) : Prop := (m.t = 0 ∧ (m.f = 1 ∨ m.f = 2) ∨ (m.t = 1 ∨ m.t = 2) ∧ m.f = 0) ∧ 1 ≤ m.d ∧ m.d ≤ X.deals.length
structure Good0 (X : MW) : Prop where
 mem : 1 ≤ X.mem ∧ X.mem ≤ 1000
 pat : 1 ≤ X.pat ∧ X.pat ≤ 1000
 fl : ∀ n : Int, n = 1 ∨ n = 2 → ((X.fst n).length : Int) = X.mem
 fv : ∀ n : Int, n = 1 ∨ n = 2 → ∀ x ∈ X.fst n, 0 ≤ x ∧ x ≤ 1000000000000
 dn : X.deals.length ≤ 1000
 dl : ∀ d : Int, 1 ≤ d → d ≤ X.deals.length → (X.deal d).Ok X
 rc : ∀ n : Int, n = 0 ∨ n = 1 ∨ n = 2 → ∀ r ∈ (X.lg n).recs, (1 ≤ r.2 ∧ r.2 ≤ X.deals.length) ∧ (n = 0 ∧ r.1 = 4 ∨ n ≠ 0 ∧ 1 ≤ r.1 ∧ r.1 ≤ 3)
 nd : ∀ n : Int, n = 0 ∨ n = 1 ∨ n = 2 → (X.lg n).recs.Nodup
 fu : ∀ n : Int, n = 0 ∨ n = 1 ∨ n = 2 → 0 ≤ (X.lg n).fuse ∧ (X.lg n).fuse ≤ 9223372036854775807
 sf : ∀ n : Int, n = 0 ∨ n = 1 ∨ n = 2 → (X.lg n).safe ≤ (X.lg n).recs.length
 bg : ∀ m ∈ X.bag, MsOk X m
 wt : ∀ d, 0 ≤ (X.kn d).wt ∧ (X.kn d).wt < X.pat
 ks : ∀ d, 0 ≤ (X.kn d).st ∧ (X.kn d).st ≤ 4
structure Good (X : MW) : Prop extends Good0 X where
 asg : ∀ d, (X.kn d).st = 1 → (4, d) ∉ X.c.recs
theorem nodup_len : ∀ (n : Nat) (l : List Nat), l.Nodup → (∀ x ∈ l, x < n) → l.length ≤ n
 | 0, l, _, h => by
  cases l with
  | nil => simp
  | cons a l => exact absurd (h a (List.mem_cons_self ..)) (Nat.not_lt_zero _)
 | n + 1, l, hn, h => by
  have h1 := nodup_len n (l.filter (· ≠ n)) (hn.filter _) (fun x hx => by
   have := List.mem_filter.1 hx
   have h2 := h x this.1
   have h3 : x ≠ n := by simpa using this.2
   omega)
  have h2 : l.length ≤ (l.filter (· ≠ n)).length + 1 := by
   clear h h1
   induction l with
   | nil => simp
   | cons a l ih =>
    have hn' := List.nodup_cons.1 hn
    by_cases e : a = n
    ·subst e
     have h3 : l.filter (· ≠ a) = l := List.filter_eq_self.2 fun x hx => by
      have : x ≠ a := fun e => hn'.1 (e ▸ hx)
      simpa using this
     simp only [List.filter_cons, ne_eq, not_true_eq_false, decide_false, Bool.false_eq_true, if_false, List.length_cons]
     have h4 : (l.filter (fun x => decide (¬ x = a))).length = l.length := congrArg List.length h3
     omega
    ·have := ih hn'.2
     simp only [List.filter_cons, ne_eq, e, not_false_eq_true, decide_true, if_true, List.length_cons]
     simp only [ne_eq] at this
     omega
  omega
theorem Good.len {X : MW} (h : Good X) {n : Int} (hn : n = 0 ∨ n = 1 ∨ n = 2) : (X.lg n).recs.length ≤ 5000 := by
 have hd := h.dn
 have h1 := nodup_len 5000 ((X.lg n).recs.map fun r => (r.1 * 1000 + (r.2 - 1)).toNat) (by
  refine List.pairwise_map.2 (List.Pairwise.imp_of_mem ?_ (h.nd n hn))
  intro a b ha hb hab
  have h2 := h.rc n hn a ha
  have h3 := h.rc n hn b hb
  intro he
  apply hab
  obtain ⟨a1, a2⟩ := a
  obtain ⟨b1, b2⟩ := b
  dsimp only at h2 h3 he
  have e1 : a1 = b1 := by omega
  have e2 : a2 = b2 := by omega
  rw [e1, e2]) (fun x hx => by
  obtain ⟨r, hr, e⟩ := List.mem_map.1 hx
  have h2 := h.rc n hn r hr
  rw [← e]
  omega)
 simpa using h1
theorem Good.pays {X : MW} (h : Good X) {n d : Int} (hd : 1 ≤ d ∧ d ≤ X.deals.length) : (0 ≤ X.payer n d ∧ X.payer n d < X.mem) ∧ (0 ≤ X.payee n d ∧ X.payee n d < X.mem) ∧ X.payer n d ≠ X.payee n d ∧ 0 ≤ X.amount n d ∧ X.amount n d ≤ 1000000000000 := by
 obtain ⟨h1, h2, h3, h4, h5, h6⟩ := h.dl d hd.1 hd.2
 unfold MW.payer MW.payee MW.amount
 split <;> exact ⟨⟨by omega, by omega⟩, ⟨by omega, by omega⟩, by omega, by omega, by omega⟩
theorem accs_snoc (X : MW) (n : Int) (l : List Rc) (r : Rc) : X.accs n (l ++ [r]) = X.acc1 n (X.accs n l) r := by
 unfold MW.accs
 rw [List.foldl_append]; rfl
theorem take_snoc {α : Type} (l : List α) (z : α) {k : Nat} (h : k < l.length) : l.take (k + 1) = l.take k ++ [l.getD k z] := by
 rw [List.take_add_one, List.getElem?_eq_getElem h, List.getD_eq_getElem?_getD, List.getElem?_eq_getElem h]
 rfl
theorem acc1_bnd {X : MW} {n : Int} {a : (Int → Int) × (Int → Int)} {r : Rc} {c M : Int} (hx : 0 ≤ X.amount n r.2 ∧ X.amount n r.2 ≤ M) (hne : X.payer n r.2 ≠ X.payee n r.2) (h : ∀ i, (-c ≤ a.1 i ∧ a.1 i ≤ M + c) ∧ -c ≤ a.2 i ∧ a.2 i ≤ c) :
  ∀ i, (-(c + M) ≤ (X.acc1 n a r).1 i ∧ (X.acc1 n a r).1 i ≤ M + (c + M)) ∧ -(c + M) ≤ (X.acc1 n a r).2 i ∧ (X.acc1 n a r).2 i ≤ c + M := by
 intro i
 have h1 := h i
 have h2 := h (X.payer n r.2)
 have h3 := h (X.payee n r.2)
 have key : ∀ (g : Int → Int) (p v : Int), upd g p v i = if i = p then v else g i := fun _ _ _ => rfl
 have key2 : ∀ (g : Int → Int) (p v : Int), upd g p v (X.payee n r.2) = if X.payee n r.2 = p then v else g (X.payee n r.2) := fun _ _ _ => rfl
 unfold MW.acc1
 dsimp only
 split
 ·dsimp only
  rw [key]
  refine ⟨by omega, ?_⟩
  split
  ·omega
  ·omega
 ·split
  ·dsimp only
   rw [key, key, key, key2, if_neg (show ¬ (X.payee n r.2 = X.payer n r.2) from fun e => hne e.symm)]
   by_cases e1 : i = X.payee n r.2
   ·rw [if_pos e1]
    by_cases e2 : i = X.payer n r.2
    ·rw [if_pos e2]; omega
    ·rw [if_neg e2]; omega
   ·rw [if_neg e1]
    by_cases e2 : i = X.payer n r.2
    ·rw [if_pos e2, if_pos e2]; omega
    ·rw [if_neg e2, if_neg e2]; omega
  ·split
   ·dsimp only
    rw [key]
    refine ⟨by omega, ?_⟩
    split
    ·omega
    ·omega
   ·exact ⟨by omega, by omega⟩
theorem accs_bnd {X : MW} (h : Good X) {n : Int} (hn : n = 1 ∨ n = 2) : ∀ (k : Nat), k ≤ (X.lg n).recs.length → ∀ i, (-((k : Int) * 1000000000000) ≤ (X.accs n ((X.lg n).recs.take k)).1 i ∧ (X.accs n ((X.lg n).recs.take k)).1 i ≤ 1000000000000 + (k : Int) * 1000000000000) ∧
   -((k : Int) * 1000000000000) ≤ (X.accs n ((X.lg n).recs.take k)).2 i ∧ (X.accs n ((X.lg n).recs.take k)).2 i ≤ (k : Int) * 1000000000000
 | 0, _, i => by
  rw [List.take_zero]
  show (-(((0 : Nat) : Int) * 1000000000000) ≤ (X.fst n).getD i.toNat 0 ∧ (X.fst n).getD i.toNat 0 ≤ 1000000000000 + ((0 : Nat) : Int) * 1000000000000) ∧ _
  have hf : 0 ≤ (X.fst n).getD i.toNat 0 ∧ (X.fst n).getD i.toNat 0 ≤ 1000000000000 := by
   rw [List.getD_eq_getElem?_getD]
   cases e : (X.fst n)[i.toNat]? with
   | none => simp
   | some x => exact h.fv n hn x (List.mem_of_getElem? e)
  refine ⟨by omega, ?_⟩
  show -(((0 : Nat) : Int) * 1000000000000) ≤ 0 ∧ (0 : Int) ≤ ((0 : Nat) : Int) * 1000000000000
  omega
 | k + 1, hk, i => by
  have ih := accs_bnd h hn k (by omega)
  rw [take_snoc _ (0, 0) (by omega), accs_snoc]
  have hm : (X.lg n).recs.getD k (0, 0) ∈ (X.lg n).recs := by
   rw [List.getD_eq_getElem?_getD, List.getElem?_eq_getElem (by omega)]
   exact List.getElem_mem _
  have hr := h.rc n (by omega) _ hm
  have hp := h.pays (n := n) hr.1
  have := acc1_bnd (M := 1000000000000) (c := (k : Int) * 1000000000000) (a := X.accs n ((X.lg n).recs.take k)) ⟨hp.2.2.2.1, hp.2.2.2.2⟩ hp.2.2.1 ih i
  omega
theorem accs_take {X : MW} {n : Int} {l : List Rc} {q : Int} (h0 : 0 ≤ q) (h1 : q < l.length) : X.accs n (l.take (q + 1).toNat) = X.acc1 n (X.accs n (l.take q.toNat)) (l.getD q.toNat (0, 0)) := by
 rw [show (q + 1).toNat = q.toNat + 1 by omega, take_snoc l (0, 0) (by omega), accs_snoc]
theorem accounts_any (A : WA) (X : MW) (K : WC) (n : Int) (rv fv : Value) (k j B : Nat) (H N : List (Option Blk)) (w0 w : World) (hn : n = 1 ∨ n = 2) (hG : Good X)
  (hO : Own B w0 w H) (hk : H[k]? = some (some (lch (A.node n) 194 (lcells rv (X.lg n) [ptr A.W, iv n, fv])))) (hw : H[j]? = some (some (lch A.W 184 (wcells A X K)))) (hK : WOk X K N)
  (hr : PRow N rv 2 (X.lg n).recs.length (cnt rcl (0, 0) (X.lg n).recs)) (hv : PRow N fv 1 (X.fst n).length (fun i => [iv ((X.fst n).getD i.toNat 0)])) (hN : ∀ x ∈ N, x ∈ H) :
  Calls Try.prog 107 #[ptr (A.node n)] w fun e w' => ∃ v1 v2 c1 c2, e = .returned (.tuple #[v1, v2]) ∧ IRow v1 2 (X.fst n).length (fun i => iv (X.bal n i)) c1 ∧ IRow v2 2 (X.fst n).length (fun i => iv (X.free n i)) c2 ∧ Own B w0 w' (c2 :: c1 :: H) := by
 obtain ⟨ro, rcap, hrv, _⟩ := hr.val
 rw [hrv] at hr
 obtain ⟨gb, hga, hrow⟩ := hr.open
 obtain ⟨fo, fcap, hfv, _⟩ := hv.val
 rw [hfv] at hv
 obtain ⟨fb, hfa, hfr⟩ := hv.open1
 have hmem := hG.mem
 have hm := hG.fl n hn
 have hlen := hG.len (n := n) (by omega)
 generalize hM : (X.fst n).length = M at *
 refine calls_of_run (F := [(0, _)]) Try.func107 rfl Try.ntmps107 rfl rfl <| run_seq <| run_region <| rl_v rfl rfl rfl (ov_assign rfl rfl) <| rl_v rfl rfl rfl (ov_assign rfl rfl) <| rl_nil <| run_seq <| run_region <| rl_ow rfl (ow_empty rfl rfl rfl Try.underlying22 info_2 hO) ?_
 rintro _ w1 ⟨v12, c12, rfl, hO2, hR12, hs3⟩
 have hr12 : IRow v12 2 0 (fun _ => .int .i64 0) c12 := hR12 _
 refine rl_v rfl rfl rfl (ov_move rfl rfl) <| rl_v rfl rfl rfl (ov_nil rfl rfl) <| rl_v rfl rfl rfl (ov_fieldS rfl Try.underlying194 rfl (fo := 6) rfl (by kernel_rfl) rfl) ?_
 refine rl_v rfl rfl rfl (ov_load rfl Try.underlying22 rfl rfl (by exact hO2.cellL (k + 1) hk (congrArg some hfv))) ?_
 refine rl_ow rfl (ow_appS rfl rfl rfl Try.underlying22 info_2 rfl hO2 0 hr12 rfl rfl rfl (hfr hO2 (mem_c1 hN)) (fun _ => rfl) ⟨by omega, by omega⟩) ?_
 rintro _ w4 ⟨v17, c17, rfl, hO5, hr17, hs6⟩
 have hb17 : IRow v17 2 M (fun i => iv ((X.fst n).getD i.toNat 0)) c17 := by
  rw [Nat.zero_add] at hr17
  refine hr17.congr fun i h0 h1 => ?_
  unfold joinF
  rw [if_neg (by omega)]
  show iv ((X.fst n).getD (i - ((0 : Nat) : Int)).toNat 0) = _
  rw [show i - ((0 : Nat) : Int) = i by omega]
 obtain ⟨a17, cp17, rfl⟩ := hb17.val
 obtain ⟨bb, Gb0, rfl, hmc, hcm, rfl, hGb0⟩ := hb17.asV (by omega)
 clear hr17 hb17
 refine rl_v rfl rfl rfl (ov_assign rfl rfl) <| rl_nil <| run_seq <| run_region <| rl_v rfl rfl rfl (ov_move rfl rfl) <| rl_v rfl rfl rfl (ov_len rfl Try.underlying22 rfl) <| rl_ow rfl (ow_make (M) rfl rfl rfl Try.underlying22 info_2 rfl hO5 rfl rfl (by rfl) (by rfl) ⟨by omega, by omega⟩) ?_
 rintro _ w7 ⟨bh, rfl, hO8, hs9⟩
 refine rl_v rfl rfl rfl (ov_assign rfl rfl) <| rl_nil <| run_seq <| run_seq <| run_region <| rl_v rfl rfl rfl (ov_move rfl rfl) <| rl_v rfl rfl rfl (ov_nil rfl rfl) <| rl_v rfl rfl rfl (ov_fieldS rfl Try.underlying194 rfl (fo := 0) rfl (by kernel_rfl) rfl) ?_
 refine rl_v rfl rfl rfl (ov_fieldS rfl Try.underlying189 rfl (fo := 0) rfl (by kernel_rfl) rfl) ?_
 refine rl_v rfl rfl rfl (ov_load rfl Try.underlying187 rfl rfl (by exact hO8.cellL (k + 2) hk (congrArg some hrv))) ?_
 refine rl_v rfl rfl rfl (ov_len rfl Try.underlying187 rfl) <| rl_v rfl rfl rfl (ov_move rfl rfl) <| rl_nil <| run_block <| Run.keep [0, 2, 3, 4, 25, 26, 27] (F' := [(0, _), (2, _), (3, _), (4, _), (25, _), (26, _), (27, _)]) rfl <| run_loop2 (fun (q : Int) (Gb : Int → Value) => [(27, .int .i64 q)]) [0, 2, 3, 4, 25, 26] (fun (q : Int) (Gb : Int → Value) (w10 : World) => 0 ≤ q ∧ q ≤ (X.lg n).recs.length ∧ (∀ i : Int, 0 ≤ i → i < M → Gb i = iv ((X.accs n ((X.lg n).recs.take q.toNat)).1 i)) ∧ Own B w0 w10 (some (vch bh 2 M (fun i => .int .i64 ((X.accs n ((X.lg n).recs.take q.toNat)).2 i))) :: some (vch bb 2 cp17 Gb) :: H)) (fun (q : Int) (Gb : Int → Value) => (((X.lg n).recs.length : Int) - q).toNat) (0) (Gb0) ?_ (And.intro (by exact slot_int rfl (by first | omega)) (And.intro rfl (And.intro rfl (And.intro rfl (And.intro rfl (And.intro rfl (And.intro rfl trivial))))))) ?_
 ·exact ⟨by omega, by omega, hGb0, hO8⟩
 intro q Gb w10 hIw10 ih11
 obtain ⟨hq0, hq1, hGb, hOq⟩ := hIw10
 show Run _ _ _ _ [(27, _), (0, _), (2, _), (3, _), (4, _), (25, _), (26, _)] _ _
 refine run_seq <| run_region <| rl_v rfl rfl rfl (ov_lss rfl rfl rfl) <| rl_nil <| run_seq ?_
 first | refine run_cond_dec rfl (fun hq => ?_) (fun hq => ?_) | refine run_cond rfl (fun hq => ?_) (fun hq => ?_)
 ·have hmr := getD_mem hq0 hq
  have hstep := accs_take (X := X) (n := n) hq0 hq
  have hbn := accs_bnd hG hn q.toNat (by omega)
  have hrc := hG.rc n (by omega) _ hmr
  have hpy := hG.pays (n := n) hrc.1
  have hdok := hG.dl _ hrc.1.1 hrc.1.2
  refine run_skip <| run_seq <| run_block <| run_seq <| run_region <| rl_v rfl rfl rfl (ov_index rfl Try.underlying187 (by kernel_rfl) (s := 2) rfl rfl ⟨by omega, by omega⟩ (by exact hga (by omega))) ?_
  refine rl_v rfl rfl rfl (ov_loadE rfl Try.underlying244 rfl (by kernel_rfl) rfl ⟨by omega, by omega⟩ rfl (hrow hOq (mem_c1 (mem_c1 hN)))) ?_
  refine rl_ow rfl (ow_alloc _ rfl rfl rfl zero_244 rfl hOq) ?_
  rintro _ w12 ⟨b6, rfl, hO13, hs14⟩
  refine rl_ow rfl (ow_storeW rfl rfl (by kernel_rfl) hO13 0 rfl rfl (by rfl) rfl (by rfl)) ?_
  rintro _ w15 ⟨rfl, hO16, hs17⟩
  refine rl_nil <| run_seq <| run_region <| rl_v rfl rfl rfl (ov_move rfl rfl) <| rl_v rfl rfl rfl (ov_fieldS rfl Try.underlying244 rfl (fo := 1) rfl (by kernel_rfl) rfl) ?_
  refine rl_v rfl rfl rfl (ov_load rfl Try.underlying3 rfl rfl (by exact hO16.cellL 0 rfl rfl)) ?_
  refine rl_call callable_138 rfl rfl rfl rfl rfl rfl (leg_any A X K n ((X.lg n).recs.getD q.toNat (0, 0)).2 rv fv (k + 3) (j + 3) B _ N w0 w15 hrc.1 hG.dn hdok hmem.2 hO16 hk hw hK (mem_c1 (mem_c1 (mem_c1 hN)))) (fun e18 w19 hp20 => ?_)
  obtain ⟨rfl, hO2⟩ := hp20
  refine ⟨_, rfl, ?_⟩
  generalize hr0 : (X.lg n).recs.getD q.toNat (0, 0) = r at *
  generalize ha0 : X.accs n ((X.lg n).recs.take q.toNat) = a at *
  have b1 := hbn (X.payer n r.2)
  have b2 := hbn (X.payee n r.2)
  obtain ⟨⟨p0, p1⟩, ⟨p2, p3⟩, pne, p4, p5⟩ := hpy
  refine rl_v rfl rfl rfl (ov_move rfl rfl) <| rl_v rfl rfl rfl (ov_extract rfl rfl (by rfl)) ?_
  refine rl_v rfl rfl rfl (ov_extract rfl rfl (by rfl)) ?_
  refine rl_v rfl rfl rfl (ov_extract rfl rfl (by rfl)) ?_
  refine rl_v rfl rfl rfl (ov_assign rfl rfl) <| rl_v rfl rfl rfl (ov_assign rfl rfl) <| rl_v rfl rfl rfl (ov_assign rfl rfl) <| rl_nil <| run_seq <| run_region <| rl_v rfl rfl rfl (ov_fieldS rfl Try.underlying244 rfl (fo := 0) rfl (by kernel_rfl) rfl) ?_
  refine rl_v rfl rfl rfl (ov_load rfl Try.underlying3 rfl rfl (by exact hO2.cellL 0 rfl rfl)) ?_
  refine rl_nil <| run_block <| run_seq <| run_region <| rl_v rfl rfl rfl (ov_eql rfl rfl rfl) <| rl_v rfl rfl rfl (ov_assign rfl rfl) <| rl_nil ?_
  first | refine run_cond_dec rfl (fun k1 => ?_) (fun k1n => ?_) | refine run_cond rfl (fun k1 => ?_) (fun k1n => ?_)
  ·rw [hr0] at k1
   refine run_region <| rl_v rfl rfl rfl (ov_move rfl rfl) <| rl_v rfl rfl rfl (ov_move rfl rfl) <| rl_v rfl rfl rfl (ov_index1 rfl Try.underlying22 (by kernel_rfl) rfl rfl ⟨by omega, by omega⟩ (by rfl)) ?_
   refine rl_v rfl rfl rfl (ov_load rfl Try.underlying2 rfl rfl (by exact hO2.cellI 1 rfl _ (by omega) (by omega))) ?_
   refine rl_v rfl rfl rfl (ov_move rfl rfl) <| rl_v rfl rfl rfl (ov_add rfl rfl rfl (by omega)) ?_
   refine rl_v rfl rfl rfl (ov_index1 rfl Try.underlying22 (by kernel_rfl) rfl rfl ⟨by omega, by omega⟩ (by rfl)) ?_
   refine rl_ow rfl (ow_storeI rfl rfl (by kernel_rfl) hO2 1 rfl rfl ⟨by omega, by omega⟩ rfl) ?_
   rintro _ w21 ⟨rfl, hO22, hs23⟩
   have e1 : X.acc1 n a r = (a.1, upd a.2 (X.payer n r.2) (a.2 (X.payer n r.2) + X.amount n r.2)) := by unfold MW.acc1; rw [if_pos (show r.1 = 1 from k1)]
   refine rl_nil <| run_inBlock <| run_inBlock <| run_region <| rl_v rfl rfl rfl (ov_add rfl rfl rfl (by omega)) ?_
   refine rl_v rfl rfl rfl (ov_move rfl rfl) <| rl_nil ?_
   refine Run.use (ih11 (q + 1) (Gb) _ ?_ ?_) (And.intro (by exact slot_int rfl (by first | omega)) (And.intro rfl (And.intro rfl (And.intro rfl (And.intro rfl (And.intro rfl (And.intro rfl trivial)))))))
   ·first | omega | (dsimp only; omega)
   ·exact ⟨by omega, by omega, by rw [hstep, e1]; exact hGb, by rw [hstep, e1]; exact hO22.tail⟩
  ·rw [hr0] at k1n
   refine run_seq <| run_region <| rl_v rfl rfl rfl (ov_eql rfl rfl rfl) <| rl_v rfl rfl rfl (ov_assign rfl rfl) <| rl_nil ?_
   first | refine run_cond_dec rfl (fun k2 => ?_) (fun k2n => ?_) | refine run_cond rfl (fun k2 => ?_) (fun k2n => ?_)
   ·rw [hr0] at k2
    refine run_seq <| run_region <| rl_v rfl rfl rfl (ov_move rfl rfl) <| rl_v rfl rfl rfl (ov_move rfl rfl) <| rl_v rfl rfl rfl (ov_index1 rfl Try.underlying22 (by kernel_rfl) rfl rfl ⟨by omega, by omega⟩ (by rfl)) ?_
    refine rl_v rfl rfl rfl (ov_load rfl Try.underlying2 rfl rfl (by exact hO2.cellI 1 rfl _ (by omega) (by omega))) ?_
    refine rl_v rfl rfl rfl (ov_move rfl rfl) <| rl_v rfl rfl rfl (ov_sub rfl rfl rfl (by omega)) ?_
    refine rl_v rfl rfl rfl (ov_index1 rfl Try.underlying22 (by kernel_rfl) rfl rfl ⟨by omega, by omega⟩ (by rfl)) ?_
    refine rl_ow rfl (ow_storeI rfl rfl (by kernel_rfl) hO2 1 rfl rfl ⟨by omega, by omega⟩ rfl) ?_
    rintro _ w24 ⟨rfl, hO25, hs26⟩
    refine rl_nil <| run_seq <| run_region <| rl_v rfl rfl rfl (ov_move rfl rfl) <| rl_v rfl rfl rfl (ov_move rfl rfl) <| rl_v rfl rfl rfl (ov_index1 rfl Try.underlying22 (by kernel_rfl) rfl rfl ⟨by omega, by omega⟩ (by rfl)) ?_
    refine rl_v rfl rfl rfl (ov_load rfl Try.underlying2 rfl rfl (by exact (hO25.cellI 2 rfl _ (by omega) (by omega)).trans (congrArg some (hGb _ (by omega) (by omega))))) ?_
    refine rl_v rfl rfl rfl (ov_move rfl rfl) <| rl_v rfl rfl rfl (ov_sub rfl rfl rfl (by omega)) ?_
    refine rl_v rfl rfl rfl (ov_index1 rfl Try.underlying22 (by kernel_rfl) rfl rfl ⟨by omega, by omega⟩ (by rfl)) ?_
    refine rl_ow rfl (ow_store rfl rfl (by kernel_rfl) hO25 2 rfl rfl ⟨by omega, by omega⟩ rfl rfl) ?_
    rintro _ w27 ⟨rfl, hO28, hs29⟩
    refine rl_nil <| run_region <| rl_v rfl rfl rfl (ov_move rfl rfl) <| rl_v rfl rfl rfl (ov_move rfl rfl) <| rl_v rfl rfl rfl (ov_index1 rfl Try.underlying22 (by kernel_rfl) rfl rfl ⟨by omega, by omega⟩ (by rfl)) ?_
    refine rl_v rfl rfl rfl (ov_load rfl Try.underlying2 rfl rfl (by exact (hO28.cellI 2 rfl _ (by omega) (by omega)).trans (congrArg some ((upd_ne _ _ (fun e => pne e.symm)).trans (hGb _ (by omega) (by omega)))))) ?_
    refine rl_v rfl rfl rfl (ov_move rfl rfl) <| rl_v rfl rfl rfl (ov_add rfl rfl rfl (by omega)) ?_
    refine rl_v rfl rfl rfl (ov_index1 rfl Try.underlying22 (by kernel_rfl) rfl rfl ⟨by omega, by omega⟩ (by rfl)) ?_
    refine rl_ow rfl (ow_store rfl rfl (by kernel_rfl) hO28 2 rfl rfl ⟨by omega, by omega⟩ rfl rfl) ?_
    rintro _ w30 ⟨rfl, hO31, hs32⟩
    have e1 : X.acc1 n a r = (upd (upd a.1 (X.payer n r.2) (a.1 (X.payer n r.2) - X.amount n r.2)) (X.payee n r.2) (a.1 (X.payee n r.2) + X.amount n r.2), upd a.2 (X.payer n r.2) (a.2 (X.payer n r.2) - X.amount n r.2)) := by
     unfold MW.acc1
     rw [if_neg k1n, if_pos (show r.1 = 2 from k2)]
     dsimp only
     rw [upd_ne a.1 _ (fun e => pne e.symm)]
    refine rl_nil <| run_inBlock <| run_inBlock <| run_region <| rl_v rfl rfl rfl (ov_add rfl rfl rfl (by omega)) ?_
    refine rl_v rfl rfl rfl (ov_move rfl rfl) <| rl_nil ?_
    refine Run.use (ih11 (q + 1) (upd (upd Gb (X.payer n r.2) (iv (a.1 (X.payer n r.2) - X.amount n r.2))) (X.payee n r.2) (iv (a.1 (X.payee n r.2) + X.amount n r.2))) _ ?_ ?_) (And.intro (by exact slot_int rfl (by first | omega)) (And.intro rfl (And.intro rfl (And.intro rfl (And.intro rfl (And.intro rfl (And.intro rfl trivial)))))))
    ·first | omega | (dsimp only; omega)
    ·exact ⟨by omega, by omega, by rw [hstep, e1]; exact fun i h0 h1 => by unfold upd; dsimp only; split; rfl; split; rfl; exact hGb i h0 h1, by rw [hstep, e1]; exact hO31.tail⟩
   ·rw [hr0] at k2n
    refine run_seq <| run_region <| rl_v rfl rfl rfl (ov_eql rfl rfl rfl) <| rl_v rfl rfl rfl (ov_assign rfl rfl) <| rl_nil ?_
    first | refine run_cond_dec rfl (fun k3 => ?_) (fun k3n => ?_) | refine run_cond rfl (fun k3 => ?_) (fun k3n => ?_)
    ·rw [hr0] at k3
     refine run_region <| rl_v rfl rfl rfl (ov_move rfl rfl) <| rl_v rfl rfl rfl (ov_move rfl rfl) <| rl_v rfl rfl rfl (ov_index1 rfl Try.underlying22 (by kernel_rfl) rfl rfl ⟨by omega, by omega⟩ (by rfl)) ?_
     refine rl_v rfl rfl rfl (ov_load rfl Try.underlying2 rfl rfl (by exact hO2.cellI 1 rfl _ (by omega) (by omega))) ?_
     refine rl_v rfl rfl rfl (ov_move rfl rfl) <| rl_v rfl rfl rfl (ov_sub rfl rfl rfl (by omega)) ?_
     refine rl_v rfl rfl rfl (ov_index1 rfl Try.underlying22 (by kernel_rfl) rfl rfl ⟨by omega, by omega⟩ (by rfl)) ?_
     refine rl_ow rfl (ow_storeI rfl rfl (by kernel_rfl) hO2 1 rfl rfl ⟨by omega, by omega⟩ rfl) ?_
     rintro _ w33 ⟨rfl, hO34, hs35⟩
     have e1 : X.acc1 n a r = (a.1, upd a.2 (X.payer n r.2) (a.2 (X.payer n r.2) - X.amount n r.2)) := by unfold MW.acc1; rw [if_neg k1n, if_neg k2n, if_pos (show r.1 = 3 from k3)]
     refine rl_nil <| run_inBlock <| run_inBlock <| run_region <| rl_v rfl rfl rfl (ov_add rfl rfl rfl (by omega)) ?_
     refine rl_v rfl rfl rfl (ov_move rfl rfl) <| rl_nil ?_
     refine Run.use (ih11 (q + 1) (Gb) _ ?_ ?_) (And.intro (by exact slot_int rfl (by first | omega)) (And.intro rfl (And.intro rfl (And.intro rfl (And.intro rfl (And.intro rfl (And.intro rfl trivial)))))))
     ·first | omega | (dsimp only; omega)
     ·exact ⟨by omega, by omega, by rw [hstep, e1]; exact hGb, by rw [hstep, e1]; exact hO34.tail⟩
    ·rw [hr0] at k3n
     exfalso; omega
 ·have hq2 : q = (X.lg n).recs.length := by omega
  subst hq2
  have htk : (X.lg n).recs.take ((X.lg n).recs.length : Int).toNat = (X.lg n).recs := by rw [Int.toNat_natCast]; exact List.take_length
  rw [htk] at hGb
  rw [htk] at hOq
  have hbn := accs_bnd hG hn (X.lg n).recs.length (Nat.le_refl _)
  rw [List.take_length] at hbn
  refine run_exit rfl <| run_seq <| run_seq <| run_region <| rl_v rfl rfl rfl (ov_move rfl rfl) <| rl_v rfl rfl rfl (ov_len rfl Try.underlying22 rfl) <| rl_v rfl rfl rfl (ov_move rfl rfl) <| rl_nil <| run_block <| Run.keep [2, 3, 4, 83, 84, 85] (F' := [(2, _), (3, _), (4, _), (83, _), (84, _), (85, _)]) rfl <| run_loop4 (fun (i : Int) (ii : Nat) (v : Value) (c : Option Blk) => [(85, .int .i64 i), (3, v)]) [2, 4, 83, 84] (fun (i : Int) (ii : Nat) (v : Value) (c : Option Blk) (w36 : World) => i = ii ∧ ii ≤ M ∧ IRow v 2 ii (fun i => iv (X.free n i)) c ∧ Own B w0 w36 (c :: some (vch bh 2 M (fun i => .int .i64 (X.held n i))) :: some (vch bb 2 cp17 Gb) :: H)) (fun (i : Int) (ii : Nat) (v : Value) (c : Option Blk) => M - ii) (0) (0) (.slice none 0 0) (none) ?_ (And.intro (by exact slot_int rfl (by first | omega)) (And.intro rfl (And.intro rfl (And.intro rfl (And.intro rfl (And.intro rfl trivial)))))) ?_
  ·exact ⟨rfl, by omega, IRow.nil _ _, hOq.nil_cons⟩
  intro i ii v c w36 hIw36 ih37
  obtain ⟨hi0, hi1, hrv3, hOi⟩ := hIw36
  show Run _ _ _ _ [(85, _), (3, _), (2, _), (4, _), (83, _), (84, _)] _ _
  subst hi0
  refine run_seq <| run_region <| rl_v rfl rfl rfl (ov_lss rfl rfl rfl) <| rl_nil <| run_seq ?_
  first | refine run_cond_dec rfl (fun hi => ?_) (fun hi => ?_) | refine run_cond rfl (fun hi => ?_) (fun hi => ?_)
  ·have b1 := hbn ii
   have e1 : X.held n ii = (X.accs n (X.lg n).recs).2 ii := rfl
   refine run_skip <| run_seq <| run_block <| run_seq <| run_region <| rl_v rfl rfl rfl (ov_move rfl rfl) <| rl_v rfl rfl rfl (ov_index1 rfl Try.underlying22 (by kernel_rfl) rfl rfl ⟨by omega, by omega⟩ (by rfl)) ?_
   refine rl_v rfl rfl rfl (ov_load rfl Try.underlying2 rfl rfl (by exact (hOi.cellI 2 rfl _ (by omega) (by omega)).trans (congrArg some (hGb _ (by omega) (by omega))))) ?_
   refine rl_v rfl rfl rfl (ov_assign rfl rfl) <| rl_v rfl rfl rfl (ov_assign rfl rfl) <| rl_nil <| run_region <| rl_v rfl rfl rfl (ov_move rfl rfl) <| rl_v rfl rfl rfl (ov_move rfl rfl) <| rl_v rfl rfl rfl (ov_move rfl rfl) <| rl_v rfl rfl rfl (ov_move rfl rfl) <| rl_v rfl rfl rfl (ov_index1 rfl Try.underlying22 (by kernel_rfl) rfl rfl ⟨by omega, by omega⟩ (by rfl)) ?_
   refine rl_v rfl rfl rfl (ov_load rfl Try.underlying2 rfl rfl (by exact hOi.cellI 1 rfl _ (by omega) (by omega))) ?_
   refine rl_v rfl rfl rfl (ov_sub rfl rfl rfl (by omega)) ?_
   refine rl_appI rfl rfl rfl rfl rfl rfl rfl rfl Try.underlying22 info_2 rfl hOi 0 hrv3 rfl rfl rfl ⟨by omega, by omega⟩ (fun v98 c98 w38 hO39 hr98 hs40 => ?_)
   refine rl_v rfl rfl rfl (ov_assign rfl rfl) <| rl_nil <| run_inBlock <| run_region <| rl_v rfl rfl rfl (ov_add rfl rfl rfl (by omega)) ?_
   refine rl_v rfl rfl rfl (ov_move rfl rfl) <| rl_nil ?_
   refine Run.use (ih37 ((ii : Int) + 1) (ii + 1) (v98) (c98) _ ?_ ?_) (And.intro (by exact slot_int rfl (by first | omega)) (And.intro rfl (And.intro rfl (And.intro rfl (And.intro rfl (And.intro rfl trivial))))))
   ·first | omega | (dsimp only; omega)
   ·exact ⟨by omega, by omega, hr98.congr fun i h0 h1 => by unfold upd; split; rename_i e; rw [e]; rfl; rfl, hO39⟩
  ·obtain rfl : ii = M := by omega
   refine run_exit rfl <| run_seq <| run_region <| rl_v rfl rfl rfl (ov_move rfl rfl) <| rl_v rfl rfl rfl (ov_move rfl rfl) <| rl_v rfl rfl rfl (ov_assign rfl rfl) <| rl_v rfl rfl rfl (ov_assign rfl rfl) <| rl_nil <| run_ret Try.func107 (res2 Try.results107 rfl rfl) ?_
   exact ⟨_, _, _, _, rfl, IRow.ofV hmc hcm hGb, hrv3, hOi.swap.tail⟩
end Go.Proofs.Ytfbbagnpdfafjaa
