/- Crises: Worths, Waves, the reference's Waves. -/
import Derived.Test.YtiambddcpflkhaaNetR
set_option maxRecDepth 100000
namespace Go.Proofs.Ytiambddcpflkhaa
open Go.RowKit Go.Proofs

theorem pk_mono {P Q : Int → Bool} {k : Nat} (h : ∀ i : Int, 0 ≤ i → i < k → P i = true → Q i = true) : (pk P k).length ≤ (pk Q k).length := by
  induction k with
  | zero => exact Nat.le_refl _
  | succ k ih =>
    have h1 := ih fun i i0 i1 => h i i0 (by omega)
    have h2 := h k (by omega) (by omega)
    unfold pk
    cases hp : P k <;> cases hq : Q k <;> simp_all <;> omega
theorem pk_lt {P Q : Int → Bool} {k : Nat} (h : ∀ i : Int, 0 ≤ i → i < k → P i = true → Q i = true) (x : Int) (h0 : 0 ≤ x) (h1 : x < k) (hp : P x = false) (hq : Q x = true) : (pk P k).length < (pk Q k).length := by
  induction k with
  | zero => omega
  | succ k ih =>
    have hm := pk_mono (P := P) (Q := Q) (k := k) fun i i0 i1 => h i i0 (by omega)
    have h2 := h k (by omega) (by omega)
    by_cases e : x = (k : Int)
    · subst e
      unfold pk
      rw [hp, hq]
      simp
      omega
    · have h3 := ih (fun i i0 i1 => h i i0 (by omega)) (by omega)
      unfold pk
      cases hp' : P k <;> cases hq' : Q k <;> simp_all <;> omega
theorem fallen_lt {n : Nat} {D : Int → Int → Int} {cash : Int → Int} {K : Nat} (h : wv n D cash K ≠ []) : (pk (fallen n D cash K) n).length < (pk (fallen n D cash (K + 1)) n).length := by
  obtain ⟨x, hx⟩ := List.exists_mem_of_ne_nil _ h
  have hm := hx
  unfold wv wave at hm
  rw [pk_mem] at hm
  obtain ⟨h0, h1, h2⟩ := hm
  unfold wvP at h2
  rw [Bool.and_eq_true] at h2
  refine pk_lt (fun i _ _ hi => by show (_ || _) = true; rw [hi]; rfl) x h0 h1 (by simpa using h2.1) ?_
  show (_ || decide (x ∈ wave n D cash (fallen n D cash K))) = true
  rw [Bool.or_eq_true]
  exact .inr (decide_eq_true hx)

theorem worths_any (ao ac : Option Addr) (n c cc : Nat) (D : Int → Int → Int) (cash : Int → Int) (w : World) (hv : Valid n D) (hc : ∀ i : Int, 0 ≤ i → i < n → 0 ≤ cash i ∧ cash i ≤ 1000000)
    (h : ITab w.heap.size w ao n (fun _ => n) (fun r c => .int .i64 (D r c))) (hC : IAt w.heap.size w ac n (fun i => .int .i64 (cash i))) :
    Calls Try.prog 34 #[.agg [.slice ao n c, .slice ac n cc].toArray] w fun e w' => ∃ p v c', e = .returned (.tuple #[v, .int .i64 0]) ∧ Clr n D cash (fun _ => true) p ∧ IRow v 2 n (fun i => .int .i64 (cash i + rcv n D p i - p i)) c' ∧ Own w.heap.size w w' [c'] := by
  have hle := hv.le
  have hpos := hv.pos
  obtain ⟨qb, qo, hca, hcash⟩ := hC.open
  refine calls_of_run (F := [(0, _)]) Try.func34 rfl Try.ntmps34 rfl rfl ?_
  have hO0 := Own.init w
  refine run_seq ?_
  refine run_region ?_
  refine rl_ow rfl (ow_box _ rfl rfl rfl rfl rfl hO0) ?_
  rintro _ w1 ⟨b1, rfl, hO2, hs3⟩
  refine rl_v rfl rfl rfl (ov_assign rfl rfl) ?_
  refine rl_v rfl rfl rfl (ov_assign rfl rfl) ?_
  refine rl_nil ?_
  refine run_seq ?_
  refine run_seq ?_
  refine run_region ?_
  refine rl_v rfl rfl rfl (ov_loadW rfl Try.underlying37 rfl (by kernel_rfl) rfl hO2 0 rfl) ?_
  refine rl_call callable_56 rfl rfl rfl rfl rfl rfl (checkCrisis_any ao ac n c n cc (fun _ => n) D cash _ (by omega) (by omega) (h.later hO2.below) (hC.later hO2.below)) (fun e4 w5 hp6 => ?_)
  obtain ⟨rfl, hb⟩ := hp6
  refine ⟨_, rfl, ?_⟩
  have hO7 := hO2.past hb
  rw [hv.chkCr hc]
  refine rl_v rfl rfl rfl (ov_assign rfl rfl) ?_
  refine rl_nil ?_
  refine run_seq ?_
  refine run_region ?_
  refine rl_v rfl rfl rfl (ov_move rfl rfl) ?_
  refine rl_v rfl rfl rfl (ov_neq rfl rfl rfl) ?_
  refine rl_nil ?_
  first | refine run_cond_dec rfl (fun h1 => ?_) (fun h1 => ?_) | refine run_cond rfl (fun h1 => ?_) (fun h1 => ?_)
  · exfalso; exact h1 rfl
  · refine run_skip ?_
    refine run_seq ?_
    refine run_region ?_
    refine rl_v rfl rfl rfl (ov_loadW rfl Try.underlying37 rfl (by kernel_rfl) rfl hO7 0 rfl) ?_
    refine rl_call callable_73 rfl rfl rfl rfl rfl rfl (clear_any ao ac n c cc D cash _ hv (fun i i0 i1 => by have := hc i i0 i1; omega) (h.later hO7.below) (hC.later hO7.below)) (fun e8 w9 hp10 => ?_)
    obtain ⟨p, rfl, hp, hb2⟩ := hp10
    refine ⟨_, rfl, ?_⟩
    have hO11 := hO7.past hb2
    refine rl_ow rfl (ow_allocA 32 rfl rfl rfl zero_101 rfl hO11) ?_
    rintro _ w12 ⟨b5, rfl, hO13, hs14⟩
    refine rl_ow rfl (ow_storeA rfl rfl (by kernel_rfl) hO13 0 rfl rfl rfl (fun _ => rfl)) ?_
    rintro _ w15 ⟨rfl, hO16, hs17⟩
    refine rl_nil ?_
    refine run_seq ?_
    refine Run.keep [1, 5] (F' := [(1, _), (5, _)]) rfl ?_
    refine run_join1 (fun (b6 : Nat) => [(6, .pointer (some ⟨b6, 0, none⟩))]) [1, 5] (fun (b6 : Nat) (w18 : World) => Own w.heap.size w w18 [some (vch b6 101 32 (fun i => .int .i64 (upto n (rcv n D p) i))), some (vch b5 101 32 (fun i => .int .i64 (p i))), some (lch b1 37 [.slice ao n c, .slice ac n cc])]) (fun hk19 => ?_) ?_
    · refine run_held (fun w' => Own w.heap.size w w' ([some (vch b5 101 32 (fun i => .int .i64 (p i))), some (lch b1 37 [.slice ao n c, .slice ac n cc])])) mixed ?_
      have hO21 := hO16.drew
      generalize World.drew w15 = w20 at hO21 ⊢
      have hS22 : Own w.heap.size w w20 ([some (vch b5 101 32 (fun i => .int .i64 (p i))), some (lch b1 37 [.slice ao n c, .slice ac n cc])]) := by first | exact hO21 | exact hO21.tail
      refine rh_v 0 rfl (by kernel_rfl) rfl rfl rfl hS22 (fun _ hS => ov_loadW rfl Try.underlying37 rfl (by kernel_rfl) rfl hS 1 rfl) ?_
      refine rh_v 1 rfl (by kernel_rfl) rfl rfl rfl hS22 (fun _ hS => ov_loadA rfl Try.underlying101 rfl (by kernel_rfl) rfl hS 0 rfl) ?_
      refine rh_v 2 rfl (by kernel_rfl) rfl rfl rfl hS22 (fun _ hS => ov_loadW rfl Try.underlying37 rfl (by kernel_rfl) rfl hS 1 rfl) ?_
      refine rh_any2 3 5 (by kernel_rfl) ?_ ?_
      · refine rc_op rfl rfl (ow_call2 callable_68 rfl rfl rfl rfl rfl (owed_any ao n c D (.slice ac n cc) _ hv (h.later hO21.below)) (by intro e w' hp; obtain ⟨rfl, hb3⟩ := hp; exact ⟨_, rfl⟩)) ?_
        rintro _ w25 ⟨_, v23, he26, rfl, hp24⟩
        obtain ⟨rfl, hb3⟩ := hp24
        injection he26 with he26; subst he26
        have hO27 := hO21.past hb3
        have hS28 : Own w.heap.size w w25 ([some (vch b5 101 32 (fun i => .int .i64 (p i))), some (lch b1 37 [.slice ao n c, .slice ac n cc])]) := by first | exact hO27 | exact hO27.tail
        refine ⟨hS28, ?_⟩
        refine rh_any2 4 5 (by kernel_rfl) ?_ ?_
        · refine rc_op rfl rfl (ow_call2 callable_66 rfl rfl rfl rfl rfl (received_any ao n c D (.slice ac n cc) p (upto n (ow n D)) _ hv (fun i i0 i1 => upto_in i0 i1) hp.rng (h.later hO27.below)) (by intro e w' hp; obtain ⟨rfl, hb4⟩ := hp; exact ⟨_, rfl⟩)) ?_
          rintro _ w31 ⟨_, v29, he32, rfl, hp30⟩
          obtain ⟨rfl, hb4⟩ := hp30
          injection he32 with he32; subst he32
          have hO33 := hO27.past hb4
          have hS34 : Own w.heap.size w w31 ([some (vch b5 101 32 (fun i => .int .i64 (p i))), some (lch b1 37 [.slice ao n c, .slice ac n cc])]) := by first | exact hO33 | exact hO33.tail
          refine ⟨hS34, ?_⟩
          refine rh_any1 5 (by kernel_rfl) ?_
          refine rc_op rfl rfl (ow_allocA 32 rfl rfl rfl zero_101 rfl hO33) ?_
          rintro _ w35 ⟨b6, rfl, hO36, hs37⟩
          have hS38 : Own w.heap.size w w35 ([some (vch b5 101 32 (fun i => .int .i64 (p i))), some (lch b1 37 [.slice ao n c, .slice ac n cc])]) := by first | exact hO36 | exact hO36.tail
          refine ⟨hS38, ?_⟩
          refine rh_any1 6 (by kernel_rfl) ?_
          refine rc_op rfl rfl (ow_storeA rfl rfl (by kernel_rfl) hO36 0 rfl rfl rfl (fun _ => rfl)) ?_
          rintro _ w39 ⟨rfl, hO40, hs41⟩
          have hS42 : Own w.heap.size w w39 ([some (vch b5 101 32 (fun i => .int .i64 (p i))), some (lch b1 37 [.slice ao n c, .slice ac n cc])]) := by first | exact hO40 | exact hO40.tail
          refine ⟨hS42, ?_⟩
          refine rh_done (by kernel_rfl) ?_
          refine Run.use (hk19 (b6) _ ?_) (And.intro rfl (And.intro rfl (And.intro rfl trivial)))
          exact hO40
        · refine rc_op rfl rfl (ow_allocA 32 rfl rfl rfl zero_101 rfl hO27) ?_
          rintro _ w43 ⟨b6, rfl, hO44, hs45⟩
          have hS46 : Own w.heap.size w w43 ([some (vch b5 101 32 (fun i => .int .i64 (p i))), some (lch b1 37 [.slice ao n c, .slice ac n cc])]) := by first | exact hO44 | exact hO44.tail
          refine ⟨hS46, ?_⟩
          refine rh_any1 4 (by kernel_rfl) ?_
          refine rc_op rfl rfl (ow_call2 callable_66 rfl rfl rfl rfl rfl (received_any ao n c D (.slice ac n cc) p (upto n (ow n D)) _ hv (fun i i0 i1 => upto_in i0 i1) hp.rng (h.later hO44.below)) (by intro e w' hp; obtain ⟨rfl, hb4⟩ := hp; exact ⟨_, rfl⟩)) ?_
          rintro _ w49 ⟨_, v47, he50, rfl, hp48⟩
          obtain ⟨rfl, hb4⟩ := hp48
          injection he50 with he50; subst he50
          have hO51 := hO44.past hb4
          have hS52 : Own w.heap.size w w49 ([some (vch b5 101 32 (fun i => .int .i64 (p i))), some (lch b1 37 [.slice ao n c, .slice ac n cc])]) := by first | exact hO51 | exact hO51.tail
          refine ⟨hS52, ?_⟩
          refine rh_any1 6 (by kernel_rfl) ?_
          refine rc_op rfl rfl (ow_storeA rfl rfl (by kernel_rfl) hO51 0 rfl rfl rfl (fun _ => rfl)) ?_
          rintro _ w53 ⟨rfl, hO54, hs55⟩
          have hS56 : Own w.heap.size w w53 ([some (vch b5 101 32 (fun i => .int .i64 (p i))), some (lch b1 37 [.slice ao n c, .slice ac n cc])]) := by first | exact hO54 | exact hO54.tail
          refine ⟨hS56, ?_⟩
          refine rh_done (by kernel_rfl) ?_
          refine Run.use (hk19 (b6) _ ?_) (And.intro rfl (And.intro rfl (And.intro rfl trivial)))
          exact hO54
      · refine rc_op rfl rfl (ow_allocA 32 rfl rfl rfl zero_101 rfl hO21) ?_
        rintro _ w57 ⟨b6, rfl, hO58, hs59⟩
        have hS60 : Own w.heap.size w w57 ([some (vch b5 101 32 (fun i => .int .i64 (p i))), some (lch b1 37 [.slice ao n c, .slice ac n cc])]) := by first | exact hO58 | exact hO58.tail
        refine ⟨hS60, ?_⟩
        refine rh_any1 3 (by kernel_rfl) ?_
        refine rc_op rfl rfl (ow_call2 callable_68 rfl rfl rfl rfl rfl (owed_any ao n c D (.slice ac n cc) _ hv (h.later hO58.below)) (by intro e w' hp; obtain ⟨rfl, hb3⟩ := hp; exact ⟨_, rfl⟩)) ?_
        rintro _ w63 ⟨_, v61, he64, rfl, hp62⟩
        obtain ⟨rfl, hb3⟩ := hp62
        injection he64 with he64; subst he64
        have hO65 := hO58.past hb3
        have hS66 : Own w.heap.size w w63 ([some (vch b5 101 32 (fun i => .int .i64 (p i))), some (lch b1 37 [.slice ao n c, .slice ac n cc])]) := by first | exact hO65 | exact hO65.tail
        refine ⟨hS66, ?_⟩
        refine rh_any1 4 (by kernel_rfl) ?_
        refine rc_op rfl rfl (ow_call2 callable_66 rfl rfl rfl rfl rfl (received_any ao n c D (.slice ac n cc) p (upto n (ow n D)) _ hv (fun i i0 i1 => upto_in i0 i1) hp.rng (h.later hO65.below)) (by intro e w' hp; obtain ⟨rfl, hb4⟩ := hp; exact ⟨_, rfl⟩)) ?_
        rintro _ w69 ⟨_, v67, he70, rfl, hp68⟩
        obtain ⟨rfl, hb4⟩ := hp68
        injection he70 with he70; subst he70
        have hO71 := hO65.past hb4
        have hS72 : Own w.heap.size w w69 ([some (vch b5 101 32 (fun i => .int .i64 (p i))), some (lch b1 37 [.slice ao n c, .slice ac n cc])]) := by first | exact hO71 | exact hO71.tail
        refine ⟨hS72, ?_⟩
        refine rh_any1 6 (by kernel_rfl) ?_
        refine rc_op rfl rfl (ow_storeA rfl rfl (by kernel_rfl) hO71 0 rfl rfl rfl (fun _ => rfl)) ?_
        rintro _ w73 ⟨rfl, hO74, hs75⟩
        have hS76 : Own w.heap.size w w73 ([some (vch b5 101 32 (fun i => .int .i64 (p i))), some (lch b1 37 [.slice ao n c, .slice ac n cc])]) := by first | exact hO74 | exact hO74.tail
        refine ⟨hS76, ?_⟩
        refine rh_done (by kernel_rfl) ?_
        refine Run.use (hk19 (b6) _ ?_) (And.intro rfl (And.intro rfl (And.intro rfl trivial)))
        exact hO74
    · intro b6 w18 hJw18
      have hO := hJw18
      show Run _ _ _ _ [(6, _), (1, _), (5, _)] _ _
      refine run_seq ?_
      refine run_seq ?_
      refine run_region ?_
      refine rl_v rfl rfl rfl (ov_fieldS rfl Try.underlying37 rfl (fo := 1) rfl (by kernel_rfl) rfl) ?_
      refine rl_v rfl rfl rfl (ov_load rfl Try.underlying23 rfl rfl (by first | exact hcash _ hO.below _ (by omega) (by omega) | exact hO.cellI 0 rfl _ (by omega) (by omega) | exact hO.cellL 0 rfl rfl | exact hO.cellI 1 rfl _ (by omega) (by omega) | exact hO.cellL 1 rfl rfl | exact hO.cellI 2 rfl _ (by omega) (by omega) | exact hO.cellL 2 rfl rfl | exact hO.cellI 3 rfl _ (by omega) (by omega) | exact hO.cellL 3 rfl rfl | exact hO.cellI 4 rfl _ (by omega) (by omega) | exact hO.cellL 4 rfl rfl | exact hO.cellI 5 rfl _ (by omega) (by omega) | exact hO.cellL 5 rfl rfl)) ?_
      refine rl_v rfl rfl rfl (ov_len rfl Try.underlying23 rfl) ?_
      refine rl_v rfl rfl rfl (ov_move rfl rfl) ?_
      refine rl_nil ?_
      refine run_block ?_
      refine Run.keep [1, 5, 6, 22, 23, 24] (F' := [(1, _), (5, _), (6, _), (22, _), (23, _), (24, _)]) rfl ?_
      refine run_loop2 (fun (k : Int) (g : Int → Int) => [(24, .int .i64 k)]) [1, 5, 6, 22, 23] (fun (k : Int) (g : Int → Int) (w77 : World) => 0 ≤ k ∧ k ≤ n ∧ (∀ i : Int, 0 ≤ i → i < n → g i = if i < k then cash i + rcv n D p i - p i else rcv n D p i) ∧ Own w.heap.size w w77 [some (vch b6 101 32 (fun i => .int .i64 (g i))), some (vch b5 101 32 (fun i => .int .i64 (p i))), some (lch b1 37 [.slice ao n c, .slice ac n cc])]) (fun (k : Int) (g : Int → Int) => ((n : Int) - k).toNat) (0) (upto n (rcv n D p)) ?_ (And.intro (by first | with_reducible rfl | exact slot_int rfl (by first | omega) | rfl) (And.intro rfl (And.intro rfl (And.intro rfl (And.intro rfl (And.intro rfl trivial)))))) ?_
      · exact ⟨by omega, by omega, fun i i0 i1 => by rw [if_neg (by omega), upto_in i0 i1], hO⟩
      intro k g w77 hIw77 ih78
      obtain ⟨hk0, hk1, hg, hO⟩ := hIw77
      show Run _ _ _ _ [(24, _), (1, _), (5, _), (6, _), (22, _), (23, _)] _ _
      refine run_seq ?_
      refine run_region ?_
      refine rl_v rfl rfl rfl (ov_lss rfl rfl rfl) ?_
      refine rl_nil ?_
      refine run_seq ?_
      first | refine run_cond_dec rfl (fun h2 => ?_) (fun h2 => ?_) | refine run_cond rfl (fun h2 => ?_) (fun h2 => ?_)
      · have hck := hc k hk0 h2
        have hrr := rcv_rng hv p hp.rng k
        have hpr := hp.rng k hk0 h2
        have hor := ow_rng hv k
        have hgk := hg k hk0 h2
        rw [if_neg (Int.lt_irrefl k)] at hgk
        refine run_skip ?_
        refine run_seq ?_
        refine run_block ?_
        refine run_seq ?_
        refine run_region ?_
        refine rl_v rfl rfl rfl (ov_move rfl rfl) ?_
        refine rl_v rfl rfl rfl (ov_index1 rfl Try.underlying23 (by kernel_rfl) rfl rfl ⟨by omega, by omega⟩ (by first | rfl | exact hca (by omega))) ?_
        refine rl_v rfl rfl rfl (ov_load rfl Try.underlying2 rfl rfl (by first | exact hcash _ hO.below _ (by omega) (by omega) | exact hO.cellI 0 rfl _ (by omega) (by omega) | exact hO.cellL 0 rfl rfl | exact hO.cellI 1 rfl _ (by omega) (by omega) | exact hO.cellL 1 rfl rfl | exact hO.cellI 2 rfl _ (by omega) (by omega) | exact hO.cellL 2 rfl rfl | exact hO.cellI 3 rfl _ (by omega) (by omega) | exact hO.cellL 3 rfl rfl | exact hO.cellI 4 rfl _ (by omega) (by omega) | exact hO.cellL 4 rfl rfl | exact hO.cellI 5 rfl _ (by omega) (by omega) | exact hO.cellL 5 rfl rfl)) ?_
        refine rl_v rfl rfl rfl (ov_assign rfl rfl) ?_
        refine rl_v rfl rfl rfl (ov_assign rfl rfl) ?_
        refine rl_nil ?_
        refine run_tail 10 mixed (by kernel_rfl) ?_
        have hO80 := hO.drew
        generalize World.drew w77 = w79 at hO80 ⊢
        refine rt_v rfl rfl rfl (ov_move rfl rfl) ?_
        refine rt_v rfl rfl rfl (ov_indexA1 rfl Try.underlying101 (by kernel_rfl) rfl rfl ⟨by omega, by omega⟩) ?_
        refine rt_v rfl rfl rfl (ov_load rfl Try.underlying2 rfl rfl (by first | exact hcash _ hO80.below _ (by omega) (by omega) | exact hO80.cellI 0 rfl _ (by omega) (by omega) | exact hO80.cellL 0 rfl rfl | exact hO80.cellI 1 rfl _ (by omega) (by omega) | exact hO80.cellL 1 rfl rfl | exact hO80.cellI 2 rfl _ (by omega) (by omega) | exact hO80.cellL 2 rfl rfl | exact hO80.cellI 3 rfl _ (by omega) (by omega) | exact hO80.cellL 3 rfl rfl | exact hO80.cellI 4 rfl _ (by omega) (by omega) | exact hO80.cellL 4 rfl rfl | exact hO80.cellI 5 rfl _ (by omega) (by omega) | exact hO80.cellL 5 rfl rfl)) ?_
        refine rt_v rfl rfl rfl (ov_move rfl rfl) ?_
        refine rt_v rfl rfl rfl (ov_move rfl rfl) ?_
        refine rt_v rfl rfl rfl (ov_indexA1 rfl Try.underlying101 (by kernel_rfl) rfl rfl ⟨by omega, by omega⟩) ?_
        refine rt_v rfl rfl rfl (ov_load rfl Try.underlying2 rfl rfl (by first | exact hcash _ hO80.below _ (by omega) (by omega) | exact hO80.cellI 0 rfl _ (by omega) (by omega) | exact hO80.cellL 0 rfl rfl | exact hO80.cellI 1 rfl _ (by omega) (by omega) | exact hO80.cellL 1 rfl rfl | exact hO80.cellI 2 rfl _ (by omega) (by omega) | exact hO80.cellL 2 rfl rfl | exact hO80.cellI 3 rfl _ (by omega) (by omega) | exact hO80.cellL 3 rfl rfl | exact hO80.cellI 4 rfl _ (by omega) (by omega) | exact hO80.cellL 4 rfl rfl | exact hO80.cellI 5 rfl _ (by omega) (by omega) | exact hO80.cellL 5 rfl rfl)) ?_
        refine rt_v rfl rfl rfl (ov_sub rfl rfl rfl (by omega)) ?_
        refine rt_v rfl rfl rfl (ov_add rfl rfl rfl (by omega)) ?_
        refine rt_v rfl rfl rfl (ov_indexA1 rfl Try.underlying101 (by kernel_rfl) rfl rfl ⟨by omega, by omega⟩) ?_
        refine rt_nil ?_
        refine rl_ow rfl (ow_storeI rfl rfl (by kernel_rfl) hO80 0 rfl rfl ⟨by omega, by omega⟩ rfl) ?_
        rintro _ w81 ⟨rfl, hO82, hs83⟩
        refine rl_nil ?_
        refine run_inBlock ?_
        refine run_region ?_
        refine rl_v rfl rfl rfl (ov_add rfl rfl rfl (by omega)) ?_
        refine rl_v rfl rfl rfl (ov_move rfl rfl) ?_
        refine rl_nil ?_
        refine Run.use (ih78 (k + 1) (upd g k (g k + (cash k - p k))) _ ?_ ?_) (And.intro (by first | with_reducible rfl | exact slot_int rfl (by first | omega) | rfl) (And.intro rfl (And.intro rfl (And.intro rfl (And.intro rfl (And.intro rfl trivial))))))
        · first | omega | (dsimp only; omega)
        · exact ⟨by omega, by omega, fun i i0 i1 => by unfold upd; split; (rename_i e; rw [e, if_pos (by omega), hgk]; omega); (rename_i e; rw [hg i i0 i1]; split <;> split <;> first | rfl | omega), hO82⟩
      · obtain rfl : k = n := by omega
        refine run_exit rfl ?_
        refine run_seq ?_
        refine run_region ?_
        refine rl_v rfl rfl rfl (ov_loadW rfl Try.underlying37 rfl (by kernel_rfl) rfl hO 2 rfl) ?_
        refine rl_v rfl rfl rfl (ov_loadA rfl Try.underlying101 rfl (by kernel_rfl) rfl hO 0 rfl) ?_
        refine rl_call callable_65 rfl rfl rfl rfl rfl rfl (list_any ao n c (.slice ac n cc) g _ hle) (fun e84 w85 hp86 => ?_)
        obtain ⟨v, c', rfl, hr, hO2⟩ := hp86
        refine ⟨_, rfl, ?_⟩
        have hO87 := hO.join hO2
        refine rl_v rfl rfl rfl (ov_assign rfl rfl) ?_
        refine rl_v rfl rfl rfl (ov_assign rfl rfl) ?_
        refine rl_nil ?_
        refine run_ret Try.func34 (res2 Try.results34 rfl rfl) ?_
        exact ⟨p, v, c', rfl, hp, hr.congr fun i i0 i1 => by rw [hg i i0 i1, if_pos i1], hO87.sub (.cons_cons _ (List.nil_sublist _))⟩

/-- One more has fallen. -/
theorem fall_up {l : List Int} {g : Int → Bool} {j x : Int} {i : Int} (h0 : 0 ≤ j) (h1 : j < l.length) (hx : lF l j = x) : upd (fun i => g i || decide (i ∈ l.take j.toNat)) x true i = (g i || decide (i ∈ l.take (j + 1).toNat)) := by
  have e : l.take (j + 1).toNat = l.take j.toNat ++ [x] := by
    have hj : j.toNat < l.length := by omega
    rw [show (j + 1).toNat = j.toNat + 1 by omega, List.take_add_one, List.getElem?_eq_getElem hj]
    unfold lF at hx
    rw [List.getD_eq_getElem?_getD, List.getElem?_eq_getElem hj] at hx
    rw [show l[j.toNat] = x from hx]
    rfl
  unfold upd
  rw [e]
  by_cases q : i = x
  · rw [if_pos q, q]; simp
  · rw [if_neg q]; simp [q]

theorem wavesRound {n : Nat} {D : Int → Int → Int} {cash : Int → Int} {K : Nat} {g : Int → Bool} {p : Int → Int} (hg : ∀ i : Int, 0 ≤ i → i < n → g i = fallen n D cash K i) (hp : Clr n D cash g p) : pk (wvP n D cash g p) n = wv n D cash K := by
  rw [← wave_eq hp]
  exact wave_congr hg

theorem wv_mem {n : Nat} {D : Int → Int → Int} {cash : Int → Int} {K : Nat} {x : Int} (h : x ∈ wv n D cash K) : 0 ≤ x ∧ x < n := by
  unfold wv wave at h
  rw [pk_mem] at h
  exact ⟨h.1, h.2.1⟩
theorem fallen_next {n : Nat} {D : Int → Int → Int} {cash : Int → Int} {K : Nat} {g g2 : Int → Bool} {j : Int} (hg : ∀ i : Int, 0 ≤ i → i < n → g i = fallen n D cash K i) (hg2 : ∀ i, g2 i = (g i || decide (i ∈ (wv n D cash K).take j.toNat))) (hj : j = (wv n D cash K).length) : ∀ i : Int, 0 ≤ i → i < n → g2 i = fallen n D cash (K + 1) i := fun i i0 i1 => by
  rw [hg2, hg i i0 i1, List.take_of_length_le (by omega)]
  show _ = (_ || _)
  unfold wv
  congr 1
theorem isNone_iff {ao : Option Addr} {cap : Nat} {T : TypeId} {l : List Int} {c : Option Blk} (hr : IRow (.slice ao l.length cap) T l.length (fun j => .int .i64 (lF l j)) c) (hnil : l = [] → Value.slice ao l.length cap = .slice none 0 0) : ao.isNone = true ↔ l = [] := by
  constructor
  · intro e
    by_cases q : l = []
    · exact q
    · obtain ⟨x, _, e2, _⟩ := hr.asV (List.length_pos_iff.2 q)
      rw [e2] at e; cases e
  · intro e
    have := hnil e
    injection this with a
    rw [a]; rfl

theorem waves_any (ao ac : Option Addr) (n c cc : Nat) (D : Int → Int → Int) (cash : Int → Int) (w : World) (hv : Valid n D) (hc : ∀ i : Int, 0 ≤ i → i < n → 0 ≤ cash i ∧ cash i ≤ 1000000)
    (h : ITab w.heap.size w ao n (fun _ => n) (fun r c => .int .i64 (D r c))) (hC : IAt w.heap.size w ac n (fun i => .int .i64 (cash i))) :
    Calls Try.prog 35 #[.agg [.slice ao n c, .slice ac n cc].toArray] w fun e w' => ∃ (K : Nat) (v : Value) (H : List (Option Blk)), e = .returned (.tuple #[v, .int .i64 0]) ∧ Waved n D cash K ∧ K ≤ n ∧
      OTab v 55 3 K (fun r => (wv n D cash r.toNat).length) (fun r c => .int .i64 (lF (wv n D cash r.toNat) c)) H ∧ Own w.heap.size w w' H := by
  have hle := hv.le
  have hpos := hv.pos
  have hc9 : ∀ i : Int, 0 ≤ i → i < n → 0 ≤ cash i ∧ cash i ≤ 1000000000 := fun i i0 i1 => by have := hc i i0 i1; omega
  obtain ⟨qb, qo, hca, hcash⟩ := hC.open
  refine calls_of_run (F := [(0, _)]) Try.func35 rfl Try.ntmps35 rfl rfl ?_
  have hO0 := Own.init w
  refine run_seq ?_
  refine run_region ?_
  refine rl_ow rfl (ow_box _ rfl rfl rfl rfl rfl hO0) ?_
  rintro _ w1 ⟨b1, rfl, hO2, hs3⟩
  refine rl_v rfl rfl rfl (ov_assign rfl rfl) ?_
  refine rl_v rfl rfl rfl (ov_assign rfl rfl) ?_
  refine rl_nil ?_
  refine run_seq ?_
  refine run_seq ?_
  refine run_region ?_
  refine rl_v rfl rfl rfl (ov_loadW rfl Try.underlying37 rfl (by kernel_rfl) rfl hO2 0 rfl) ?_
  refine rl_call callable_56 rfl rfl rfl rfl rfl rfl (checkCrisis_any ao ac n c n cc (fun _ => n) D cash _ (by omega) (by omega) (h.later hO2.below) (hC.later hO2.below)) (fun e4 w5 hp6 => ?_)
  obtain ⟨rfl, hb⟩ := hp6
  refine ⟨_, rfl, ?_⟩
  have hO7 := hO2.past hb
  rw [hv.chkCr hc]
  refine rl_v rfl rfl rfl (ov_assign rfl rfl) ?_
  refine rl_nil ?_
  refine run_seq ?_
  refine run_region ?_
  refine rl_v rfl rfl rfl (ov_move rfl rfl) ?_
  refine rl_v rfl rfl rfl (ov_neq rfl rfl rfl) ?_
  refine rl_nil ?_
  first | refine run_cond_dec rfl (fun h1 => ?_) (fun h1 => ?_) | refine run_cond rfl (fun h1 => ?_) (fun h1 => ?_)
  · exfalso; exact h1 rfl
  · refine run_skip ?_
    refine run_seq ?_
    refine run_region ?_
    refine rl_v rfl rfl rfl (ov_loadW rfl Try.underlying37 rfl (by kernel_rfl) rfl hO7 0 rfl) ?_
    refine rl_call callable_68 rfl rfl rfl rfl rfl rfl (owed_any ao n c D (.slice ac n cc) _ hv (h.later hO7.below)) (fun e8 w9 hp10 => ?_)
    obtain ⟨rfl, hb3⟩ := hp10
    refine ⟨_, rfl, ?_⟩
    have hO11 := hO7.past hb3
    refine rl_ow rfl (ow_allocA 32 rfl rfl rfl zero_101 rfl hO11) ?_
    rintro _ w12 ⟨b5, rfl, hO13, hs14⟩
    refine rl_ow rfl (ow_storeA rfl rfl (by kernel_rfl) hO13 0 rfl rfl rfl (fun _ => rfl)) ?_
    rintro _ w15 ⟨rfl, hO16, hs17⟩
    refine rl_nil ?_
    refine run_seq ?_
    refine run_region ?_
    refine rl_v rfl rfl rfl (ov_fieldS rfl Try.underlying37 rfl (fo := 0) rfl (by kernel_rfl) rfl) ?_
    refine rl_v rfl rfl rfl (ov_load rfl Try.underlying22 rfl rfl (by first | exact hO16.cellI 0 rfl _ (by omega) (by omega) | exact hO16.cellL 0 rfl rfl | exact hO16.cellI 1 rfl _ (by omega) (by omega) | exact hO16.cellL 1 rfl rfl | exact hO16.cellI 2 rfl _ (by omega) (by omega) | exact hO16.cellL 2 rfl rfl | exact hO16.cellI 3 rfl _ (by omega) (by omega) | exact hO16.cellL 3 rfl rfl | exact hO16.cellI 4 rfl _ (by omega) (by omega) | exact hO16.cellL 4 rfl rfl | exact hO16.cellI 5 rfl _ (by omega) (by omega) | exact hO16.cellL 5 rfl rfl)) ?_
    refine rl_v rfl rfl rfl (ov_len rfl Try.underlying22 rfl) ?_
    refine rl_make (n) rfl rfl rfl rfl Try.underlying48 info_4 rfl hO16 rfl rfl (by first | rfl | omega) (by first | rfl | omega) ⟨by omega, by omega⟩ (fun b6 w18 hO19 hs20 => ?_)
    refine rl_v rfl rfl rfl (ov_assign rfl rfl) ?_
    refine rl_nil ?_
    refine run_seq ?_
    refine run_region ?_
    refine rl_v rfl rfl rfl (ov_assign rfl rfl) ?_
    refine rl_nil ?_
    refine run_block ?_
    refine Run.keep [1, 5, 6, 7] (F' := [(1, _), (5, _), (6, _), (7, _)]) rfl ?_
    refine run_loop4 (fun (K : Nat) (v : Value) (g : Int → Bool) (H : List (Option Blk)) => [(7, v)]) [1, 5, 6] (fun (K : Nat) (v : Value) (g : Int → Bool) (H : List (Option Blk)) (w21 : World) => K ≤ (pk (fallen n D cash K) n).length ∧ OTab v 55 3 K (fun r => (wv n D cash r.toNat).length) (fun r c => .int .i64 (lF (wv n D cash r.toNat) c)) H ∧ (∀ j, j < K → wv n D cash j ≠ []) ∧ (∀ i : Int, 0 ≤ i → i < n → g i = fallen n D cash K i) ∧ Own w.heap.size w w21 (some (vch b6 4 n (fun i => .bool (g i))) :: some (vch b5 101 32 (fun i => .int .i64 (upto n (ow n D) i))) :: some (lch b1 37 [.slice ao n c, .slice ac n cc]) :: H)) (fun (K : Nat) (v : Value) (g : Int → Bool) (H : List (Option Blk)) => n - (pk (fallen n D cash K) n).length) (0) (.slice none 0 0) (fun _ => false) ([none]) ?_ (And.intro rfl (And.intro rfl (And.intro rfl (And.intro rfl trivial)))) ?_
    · exact ⟨by omega, OTab.nil _ _ _ _, fun j hj => by omega, fun i i0 i1 => rfl, hO19.nil_cons.perm (List.perm_append_comm (l₁ := [none]))⟩
    intro K v g H w21 hIw21 ih22
    obtain ⟨hKn, hT, hsome, hg, hO⟩ := hIw21
    show Run _ _ _ _ [(7, _), (1, _), (5, _), (6, _)] _ _
    refine run_block ?_
    refine run_seq ?_
    refine Run.keep [1, 5, 6, 7] (F' := [(1, _), (5, _), (6, _), (7, _)]) rfl ?_
    refine run_join2 (fun (b8 : Nat) (p : Int → Int) => [(8, .pointer (some ⟨b8, 0, none⟩))]) [1, 5, 6, 7] (fun (b8 : Nat) (p : Int → Int) (w23 : World) => Clr n D cash g p ∧ Own w.heap.size w w23 (some (vch b8 101 32 (fun i => .int .i64 (upto n (rcv n D p) i))) :: some (vch b6 4 n (fun i => .bool (g i))) :: some (vch b5 101 32 (fun i => .int .i64 (upto n (ow n D) i))) :: some (lch b1 37 [.slice ao n c, .slice ac n cc]) :: H)) (fun hk24 => ?_) ?_
    · refine run_held (fun w' => Own w.heap.size w w' (some (vch b6 4 n (fun i => .bool (g i))) :: some (vch b5 101 32 (fun i => .int .i64 (upto n (ow n D) i))) :: some (lch b1 37 [.slice ao n c, .slice ac n cc]) :: H)) mixed ?_
      have hO26 := hO.drew
      generalize World.drew w21 = w25 at hO26 ⊢
      have hS27 : Own w.heap.size w w25 (some (vch b6 4 n (fun i => .bool (g i))) :: some (vch b5 101 32 (fun i => .int .i64 (upto n (ow n D) i))) :: some (lch b1 37 [.slice ao n c, .slice ac n cc]) :: H) := by first | exact hO26 | exact hO26.tail
      refine rh_v 0 rfl (by kernel_rfl) rfl rfl rfl hS27 (fun _ hS => ov_loadW rfl Try.underlying37 rfl (by kernel_rfl) rfl hS 2 rfl) ?_
      refine rh_v 1 rfl (by kernel_rfl) rfl rfl rfl hS27 (fun _ hS => ov_loadW rfl Try.underlying37 rfl (by kernel_rfl) rfl hS 2 rfl) ?_
      refine rh_v 2 rfl (by kernel_rfl) rfl rfl rfl hS27 (fun _ hS => ov_move rfl rfl) ?_
      refine rh_v 4 rfl (by kernel_rfl) rfl rfl rfl hS27 (fun _ hS => ov_loadA rfl Try.underlying101 rfl (by kernel_rfl) rfl hS 1 rfl) ?_
      refine rh_any2 3 6 (by kernel_rfl) ?_ ?_
      · refine rc_op rfl rfl (ow_call2 callable_74 rfl rfl rfl rfl rfl (among_any ao ac _ n c cc n D cash g _ hv hc9 (h.later hO26.below) (hC.later hO26.below) (hO26.readsI 0 rfl)) (by intro e w' hp; obtain ⟨p, rfl, hp, hb4⟩ := hp; exact ⟨_, rfl⟩)) ?_
        rintro _ w30 ⟨_, v28, he31, rfl, hp29⟩
        obtain ⟨p, rfl, hp, hb4⟩ := hp29
        injection he31 with he31; subst he31
        have hO32 := hO26.past hb4
        have hS33 : Own w.heap.size w w30 (some (vch b6 4 n (fun i => .bool (g i))) :: some (vch b5 101 32 (fun i => .int .i64 (upto n (ow n D) i))) :: some (lch b1 37 [.slice ao n c, .slice ac n cc]) :: H) := by first | exact hO32 | exact hO32.tail
        refine ⟨hS33, ?_⟩
        refine rh_any2 5 6 (by kernel_rfl) ?_ ?_
        · refine rc_op rfl rfl (ow_call2 callable_66 rfl rfl rfl rfl rfl (received_any ao n c D (.slice ac n cc) p (upto n (ow n D)) _ hv (fun i i0 i1 => upto_in i0 i1) hp.rng (h.later hO32.below)) (by intro e w' hp; obtain ⟨rfl, hb5⟩ := hp; exact ⟨_, rfl⟩)) ?_
          rintro _ w36 ⟨_, v34, he37, rfl, hp35⟩
          obtain ⟨rfl, hb5⟩ := hp35
          injection he37 with he37; subst he37
          have hO38 := hO32.past hb5
          have hS39 : Own w.heap.size w w36 (some (vch b6 4 n (fun i => .bool (g i))) :: some (vch b5 101 32 (fun i => .int .i64 (upto n (ow n D) i))) :: some (lch b1 37 [.slice ao n c, .slice ac n cc]) :: H) := by first | exact hO38 | exact hO38.tail
          refine ⟨hS39, ?_⟩
          refine rh_any1 6 (by kernel_rfl) ?_
          refine rc_op rfl rfl (ow_allocA 32 rfl rfl rfl zero_101 rfl hO38) ?_
          rintro _ w40 ⟨b8, rfl, hO41, hs42⟩
          have hS43 : Own w.heap.size w w40 (some (vch b6 4 n (fun i => .bool (g i))) :: some (vch b5 101 32 (fun i => .int .i64 (upto n (ow n D) i))) :: some (lch b1 37 [.slice ao n c, .slice ac n cc]) :: H) := by first | exact hO41 | exact hO41.tail
          refine ⟨hS43, ?_⟩
          refine rh_any1 7 (by kernel_rfl) ?_
          refine rc_op rfl rfl (ow_storeA rfl rfl (by kernel_rfl) hO41 0 rfl rfl rfl (fun _ => rfl)) ?_
          rintro _ w44 ⟨rfl, hO45, hs46⟩
          have hS47 : Own w.heap.size w w44 (some (vch b6 4 n (fun i => .bool (g i))) :: some (vch b5 101 32 (fun i => .int .i64 (upto n (ow n D) i))) :: some (lch b1 37 [.slice ao n c, .slice ac n cc]) :: H) := by first | exact hO45 | exact hO45.tail
          refine ⟨hS47, ?_⟩
          refine rh_done (by kernel_rfl) ?_
          refine Run.use (hk24 (b8) (p) _ ?_) (And.intro rfl (And.intro rfl (And.intro rfl (And.intro rfl (And.intro rfl trivial)))))
          exact ⟨hp, hO45⟩
        · refine rc_op rfl rfl (ow_allocA 32 rfl rfl rfl zero_101 rfl hO32) ?_
          rintro _ w48 ⟨b8, rfl, hO49, hs50⟩
          have hS51 : Own w.heap.size w w48 (some (vch b6 4 n (fun i => .bool (g i))) :: some (vch b5 101 32 (fun i => .int .i64 (upto n (ow n D) i))) :: some (lch b1 37 [.slice ao n c, .slice ac n cc]) :: H) := by first | exact hO49 | exact hO49.tail
          refine ⟨hS51, ?_⟩
          refine rh_any1 5 (by kernel_rfl) ?_
          refine rc_op rfl rfl (ow_call2 callable_66 rfl rfl rfl rfl rfl (received_any ao n c D (.slice ac n cc) p (upto n (ow n D)) _ hv (fun i i0 i1 => upto_in i0 i1) hp.rng (h.later hO49.below)) (by intro e w' hp; obtain ⟨rfl, hb5⟩ := hp; exact ⟨_, rfl⟩)) ?_
          rintro _ w54 ⟨_, v52, he55, rfl, hp53⟩
          obtain ⟨rfl, hb5⟩ := hp53
          injection he55 with he55; subst he55
          have hO56 := hO49.past hb5
          have hS57 : Own w.heap.size w w54 (some (vch b6 4 n (fun i => .bool (g i))) :: some (vch b5 101 32 (fun i => .int .i64 (upto n (ow n D) i))) :: some (lch b1 37 [.slice ao n c, .slice ac n cc]) :: H) := by first | exact hO56 | exact hO56.tail
          refine ⟨hS57, ?_⟩
          refine rh_any1 7 (by kernel_rfl) ?_
          refine rc_op rfl rfl (ow_storeA rfl rfl (by kernel_rfl) hO56 0 rfl rfl rfl (fun _ => rfl)) ?_
          rintro _ w58 ⟨rfl, hO59, hs60⟩
          have hS61 : Own w.heap.size w w58 (some (vch b6 4 n (fun i => .bool (g i))) :: some (vch b5 101 32 (fun i => .int .i64 (upto n (ow n D) i))) :: some (lch b1 37 [.slice ao n c, .slice ac n cc]) :: H) := by first | exact hO59 | exact hO59.tail
          refine ⟨hS61, ?_⟩
          refine rh_done (by kernel_rfl) ?_
          refine Run.use (hk24 (b8) (p) _ ?_) (And.intro rfl (And.intro rfl (And.intro rfl (And.intro rfl (And.intro rfl trivial)))))
          exact ⟨hp, hO59⟩
      · refine rc_op rfl rfl (ow_allocA 32 rfl rfl rfl zero_101 rfl hO26) ?_
        rintro _ w62 ⟨b8, rfl, hO63, hs64⟩
        have hS65 : Own w.heap.size w w62 (some (vch b6 4 n (fun i => .bool (g i))) :: some (vch b5 101 32 (fun i => .int .i64 (upto n (ow n D) i))) :: some (lch b1 37 [.slice ao n c, .slice ac n cc]) :: H) := by first | exact hO63 | exact hO63.tail
        refine ⟨hS65, ?_⟩
        refine rh_any1 3 (by kernel_rfl) ?_
        refine rc_op rfl rfl (ow_call2 callable_74 rfl rfl rfl rfl rfl (among_any ao ac _ n c cc n D cash g _ hv hc9 (h.later hO63.below) (hC.later hO63.below) (hO63.readsI 1 rfl)) (by intro e w' hp; obtain ⟨p, rfl, hp, hb4⟩ := hp; exact ⟨_, rfl⟩)) ?_
        rintro _ w68 ⟨_, v66, he69, rfl, hp67⟩
        obtain ⟨p, rfl, hp, hb4⟩ := hp67
        injection he69 with he69; subst he69
        have hO70 := hO63.past hb4
        have hS71 : Own w.heap.size w w68 (some (vch b6 4 n (fun i => .bool (g i))) :: some (vch b5 101 32 (fun i => .int .i64 (upto n (ow n D) i))) :: some (lch b1 37 [.slice ao n c, .slice ac n cc]) :: H) := by first | exact hO70 | exact hO70.tail
        refine ⟨hS71, ?_⟩
        refine rh_any1 5 (by kernel_rfl) ?_
        refine rc_op rfl rfl (ow_call2 callable_66 rfl rfl rfl rfl rfl (received_any ao n c D (.slice ac n cc) p (upto n (ow n D)) _ hv (fun i i0 i1 => upto_in i0 i1) hp.rng (h.later hO70.below)) (by intro e w' hp; obtain ⟨rfl, hb5⟩ := hp; exact ⟨_, rfl⟩)) ?_
        rintro _ w74 ⟨_, v72, he75, rfl, hp73⟩
        obtain ⟨rfl, hb5⟩ := hp73
        injection he75 with he75; subst he75
        have hO76 := hO70.past hb5
        have hS77 : Own w.heap.size w w74 (some (vch b6 4 n (fun i => .bool (g i))) :: some (vch b5 101 32 (fun i => .int .i64 (upto n (ow n D) i))) :: some (lch b1 37 [.slice ao n c, .slice ac n cc]) :: H) := by first | exact hO76 | exact hO76.tail
        refine ⟨hS77, ?_⟩
        refine rh_any1 7 (by kernel_rfl) ?_
        refine rc_op rfl rfl (ow_storeA rfl rfl (by kernel_rfl) hO76 0 rfl rfl rfl (fun _ => rfl)) ?_
        rintro _ w78 ⟨rfl, hO79, hs80⟩
        have hS81 : Own w.heap.size w w78 (some (vch b6 4 n (fun i => .bool (g i))) :: some (vch b5 101 32 (fun i => .int .i64 (upto n (ow n D) i))) :: some (lch b1 37 [.slice ao n c, .slice ac n cc]) :: H) := by first | exact hO79 | exact hO79.tail
        refine ⟨hS81, ?_⟩
        refine rh_done (by kernel_rfl) ?_
        refine Run.use (hk24 (b8) (p) _ ?_) (And.intro rfl (And.intro rfl (And.intro rfl (And.intro rfl (And.intro rfl trivial)))))
        exact ⟨hp, hO79⟩
    · intro b8 p w23 hJw23
      obtain ⟨hp, hO⟩ := hJw23
      show Run _ _ _ _ [(8, _), (1, _), (5, _), (6, _), (7, _)] _ _
      have hO9 := hO.nil_cons
      refine run_seq ?_
      refine run_region ?_
      refine rl_v rfl rfl rfl (ov_assign rfl rfl) ?_
      refine rl_nil ?_
      refine run_seq ?_
      refine run_seq ?_
      refine run_region ?_
      refine rl_v rfl rfl rfl (ov_fieldS rfl Try.underlying37 rfl (fo := 0) rfl (by kernel_rfl) rfl) ?_
      refine rl_v rfl rfl rfl (ov_load rfl Try.underlying22 rfl rfl (by first | exact hcash _ hO9.below _ (by omega) (by omega) | exact hO9.cellI 0 rfl _ (by omega) (by omega) | exact hO9.cellL 0 rfl rfl | exact hO9.cellI 1 rfl _ (by omega) (by omega) | exact hO9.cellL 1 rfl rfl | exact hO9.cellI 2 rfl _ (by omega) (by omega) | exact hO9.cellL 2 rfl rfl | exact hO9.cellI 3 rfl _ (by omega) (by omega) | exact hO9.cellL 3 rfl rfl | exact hO9.cellI 4 rfl _ (by omega) (by omega) | exact hO9.cellL 4 rfl rfl | exact hO9.cellI 5 rfl _ (by omega) (by omega) | exact hO9.cellL 5 rfl rfl)) ?_
      refine rl_v rfl rfl rfl (ov_len rfl Try.underlying22 rfl) ?_
      refine rl_v rfl rfl rfl (ov_move rfl rfl) ?_
      refine rl_nil ?_
      refine run_block ?_
      refine Run.keep [1, 5, 6, 7, 8, 9, 32, 33] (F' := [(1, _), (5, _), (6, _), (7, _), (8, _), (9, _), (32, _), (33, _)]) rfl ?_
      refine run_loop3 (fun (k : Int) (vw : Value) (cr : Option Blk) => [(33, .int .i64 k), (9, vw)]) [1, 5, 6, 7, 8, 32] (fun (k : Int) (vw : Value) (cr : Option Blk) (w82 : World) => 0 ≤ k ∧ k ≤ n ∧ IRow vw 3 (pk (wvP n D cash g p) k.toNat).length (fun j => .int .i64 (lF (pk (wvP n D cash g p) k.toNat) j)) cr ∧ ((pk (wvP n D cash g p) k.toNat) = [] → vw = .slice none 0 0) ∧ Own w.heap.size w w82 (cr :: some (vch b8 101 32 (fun i => .int .i64 (upto n (rcv n D p) i))) :: some (vch b6 4 n (fun i => .bool (g i))) :: some (vch b5 101 32 (fun i => .int .i64 (upto n (ow n D) i))) :: some (lch b1 37 [.slice ao n c, .slice ac n cc]) :: H)) (fun (k : Int) (vw : Value) (cr : Option Blk) => ((n : Int) - k).toNat) (0) (.slice none 0 0) (none) ?_ (And.intro (by first | with_reducible rfl | exact slot_int rfl (by first | omega) | rfl) (And.intro rfl (And.intro rfl (And.intro rfl (And.intro rfl (And.intro rfl (And.intro rfl (And.intro rfl trivial)))))))) ?_
      · exact ⟨by omega, by omega, IRow.nil _ _, fun _ => rfl, hO9⟩
      intro k vw cr w82 hIw82 ih83
      obtain ⟨hk0, hk1, hr, hnil, hO⟩ := hIw82
      show Run _ _ _ _ [(33, _), (9, _), (1, _), (5, _), (6, _), (7, _), (8, _), (32, _)] _ _
      refine run_seq ?_
      refine run_region ?_
      refine rl_v rfl rfl rfl (ov_lss rfl rfl rfl) ?_
      refine rl_nil ?_
      refine run_seq ?_
      first | refine run_cond_dec rfl (fun h2 => ?_) (fun h2 => ?_) | refine run_cond rfl (fun h2 => ?_) (fun h2 => ?_)
      · have hlen := pk_len (wvP n D cash g p) k.toNat
        have hck := hc k hk0 h2
        have hrr := rcv_rng hv p hp.rng k
        have e1 : upto n (ow n D) k = ow n D k := upto_in hk0 h2
        have e2 : upto n (rcv n D p) k = rcv n D p k := upto_in hk0 h2
        refine run_skip ?_
        refine run_seq ?_
        refine run_block ?_
        refine run_seq ?_
        refine run_region ?_
        refine rl_v rfl rfl rfl (ov_move rfl rfl) ?_
        refine rl_v rfl rfl rfl (ov_assign rfl rfl) ?_
        refine rl_nil ?_
        refine run_seq ?_
        refine run_quiet mixed (by kernel_rfl) ?_
        refine rq_v rfl rfl rfl (fun _ => ov_move rfl rfl) ?_
        refine rq_v rfl rfl rfl (fun _ => ov_move rfl rfl) ?_
        refine rq_v rfl rfl rfl (fun _ => ov_index1 rfl Try.underlying48 (by kernel_rfl) rfl rfl ⟨by omega, by omega⟩ (by first | rfl | exact hca (by omega))) ?_
        refine rq_v rfl rfl rfl (fun _ => ov_load rfl Try.underlying4 rfl rfl (by show World.cell? w82 _ = _; first | exact hO.cellI 2 rfl k hk0 (by omega))) ?_
        refine rq_v rfl rfl rfl (fun _ => ov_not rfl rfl) ?_
        refine rq_v rfl rfl rfl (fun _ => ov_move rfl rfl) ?_
        first | refine rq_split_dec 41 rfl (fun hg1 => ?_) (fun hg1 => ?_) | refine rq_split 41 rfl (fun hg1 => ?_) (fun hg1 => ?_)
        · refine rq_gv rfl rfl rfl rfl rfl (fun _ => ov_fieldS rfl Try.underlying37 rfl (fo := 1) rfl (by kernel_rfl) rfl) ?_
          refine rq_gv rfl rfl rfl rfl rfl (fun _ => ov_load rfl Try.underlying23 rfl rfl (by show World.cell? w82 _ = _; first | exact hcash _ hO.below _ (by omega) (by omega) | exact hO.cellI 0 rfl _ (by omega) (by omega) | exact hO.cellL 0 rfl rfl | exact hO.cellI 1 rfl _ (by omega) (by omega) | exact hO.cellL 1 rfl rfl | exact hO.cellI 2 rfl _ (by omega) (by omega) | exact hO.cellL 2 rfl rfl | exact hO.cellI 3 rfl _ (by omega) (by omega) | exact hO.cellL 3 rfl rfl | exact hO.cellI 4 rfl _ (by omega) (by omega) | exact hO.cellL 4 rfl rfl | exact hO.cellI 5 rfl _ (by omega) (by omega) | exact hO.cellL 5 rfl rfl)) ?_
          refine rq_gv rfl rfl rfl rfl rfl (fun _ => ov_move rfl rfl) ?_
          refine rq_gv rfl rfl rfl rfl rfl (fun _ => ov_index1 rfl Try.underlying23 (by kernel_rfl) rfl rfl ⟨by omega, by omega⟩ (by first | rfl | exact hca (by omega))) ?_
          refine rq_gv rfl rfl rfl rfl rfl (fun _ => ov_load rfl Try.underlying2 rfl rfl (by show World.cell? w82 _ = _; first | exact hcash _ hO.below _ (by omega) (by omega) | exact hO.cellI 0 rfl _ (by omega) (by omega) | exact hO.cellL 0 rfl rfl | exact hO.cellI 1 rfl _ (by omega) (by omega) | exact hO.cellL 1 rfl rfl | exact hO.cellI 2 rfl _ (by omega) (by omega) | exact hO.cellL 2 rfl rfl | exact hO.cellI 3 rfl _ (by omega) (by omega) | exact hO.cellL 3 rfl rfl | exact hO.cellI 4 rfl _ (by omega) (by omega) | exact hO.cellL 4 rfl rfl | exact hO.cellI 5 rfl _ (by omega) (by omega) | exact hO.cellL 5 rfl rfl)) ?_
          refine rq_gv rfl rfl rfl rfl rfl (fun _ => ov_move rfl rfl) ?_
          refine rq_gv rfl rfl rfl rfl rfl (fun _ => ov_indexA1 rfl Try.underlying101 (by kernel_rfl) rfl rfl ⟨by omega, by omega⟩) ?_
          refine rq_gv rfl rfl rfl rfl rfl (fun _ => ov_load rfl Try.underlying2 rfl rfl (by show World.cell? w82 _ = _; first | exact hO.cellI 1 rfl k hk0 (by omega))) ?_
          refine rq_gv rfl rfl rfl rfl rfl (fun _ => ov_add rfl rfl rfl (by rw [e2]; omega)) ?_
          refine rq_gv rfl rfl rfl rfl rfl (fun _ => ov_move rfl rfl) ?_
          refine rq_gv rfl rfl rfl rfl rfl (fun _ => ov_indexA1 rfl Try.underlying101 (by kernel_rfl) rfl rfl ⟨by omega, by omega⟩) ?_
          refine rq_gv rfl rfl rfl rfl rfl (fun _ => ov_load rfl Try.underlying2 rfl rfl (by show World.cell? w82 _ = _; first | exact hO.cellI 3 rfl k hk0 (by omega))) ?_
          refine rq_gv rfl rfl rfl rfl rfl (fun _ => ov_lss rfl rfl rfl) ?_
          refine rq_v rfl rfl rfl (fun _ => ov_pick_t rfl rfl rfl) ?_
          refine rq_nil (fun n85 => ?_)
          have hO87 := hO.drewN n85
          generalize World.drewN w82 n85 = w86 at hO87 ⊢
          first | refine run_cond_dec rfl (fun h3 => ?_) (fun h3 => ?_) | refine run_cond rfl (fun h3 => ?_) (fun h3 => ?_)
          · have hP : wvP n D cash g p k = true := by unfold wvP; rw [hg1, Bool.true_and]; exact decide_eq_true (by rw [e2, e1] at h3; exact h3)
            refine run_region ?_
            refine rl_v rfl rfl rfl (ov_move rfl rfl) ?_
            refine rl_v rfl rfl rfl (ov_move rfl rfl) ?_
            refine rl_appI rfl rfl rfl rfl rfl rfl rfl rfl Try.underlying55 info_3 rfl hO87 0 hr rfl rfl rfl ⟨by omega, by omega⟩ (fun v5 c5 w88 hO89 hr5 hs90 => ?_)
            refine rl_v rfl rfl rfl (ov_assign rfl rfl) ?_
            refine rl_nil ?_
            refine run_inBlock ?_
            refine run_region ?_
            refine rl_v rfl rfl rfl (ov_add rfl rfl rfl (by omega)) ?_
            refine rl_v rfl rfl rfl (ov_move rfl rfl) ?_
            refine rl_nil ?_
            refine Run.use (ih83 (k + 1) (v5) (c5) _ ?_ ?_) (And.intro (by first | with_reducible rfl | exact slot_int rfl (by first | omega) | rfl) (And.intro rfl (And.intro rfl (And.intro rfl (And.intro rfl (And.intro rfl (And.intro rfl (And.intro rfl trivial))))))))
            · first | omega | (dsimp only; omega)
            · exact ⟨by omega, by omega, row_is (row_snoc hr5) (pk_yes hk0 hP).symm, fun e => absurd e (by rw [pk_yes hk0 hP]; simp), hO89⟩
          · have hP : wvP n D cash g p k = false := by unfold wvP; rw [hg1, Bool.true_and]; exact decide_eq_false (by rw [e2, e1] at h3; exact h3)
            refine run_skip ?_
            refine run_inBlock ?_
            refine run_region ?_
            refine rl_v rfl rfl rfl (ov_add rfl rfl rfl (by omega)) ?_
            refine rl_v rfl rfl rfl (ov_move rfl rfl) ?_
            refine rl_nil ?_
            refine Run.use (ih83 (k + 1) (vw) (cr) _ ?_ ?_) (And.intro (by first | with_reducible rfl | exact slot_int rfl (by first | omega) | rfl) (And.intro rfl (And.intro rfl (And.intro rfl (And.intro rfl (And.intro rfl (And.intro rfl (And.intro rfl trivial))))))))
            · first | omega | (dsimp only; omega)
            · exact ⟨by omega, by omega, row_is hr (pk_no hk0 hP).symm, fun e => hnil (by rw [pk_no hk0 hP] at e; exact e), hO87⟩
        · have hP : wvP n D cash g p k = false := by unfold wvP; rw [hg1, Bool.false_and]
          refine rq_gskip rfl rfl rfl rfl rfl rfl ?_
          refine rq_gskip rfl rfl rfl rfl rfl rfl ?_
          refine rq_gskip rfl rfl rfl rfl rfl rfl ?_
          refine rq_gskip rfl rfl rfl rfl rfl rfl ?_
          refine rq_gskip rfl rfl rfl rfl rfl rfl ?_
          refine rq_gskip rfl rfl rfl rfl rfl rfl ?_
          refine rq_gskip rfl rfl rfl rfl rfl rfl ?_
          refine rq_gskip rfl rfl rfl rfl rfl rfl ?_
          refine rq_gskip rfl rfl rfl rfl rfl rfl ?_
          refine rq_gskip rfl rfl rfl rfl rfl rfl ?_
          refine rq_gskip rfl rfl rfl rfl rfl rfl ?_
          refine rq_gskip rfl rfl rfl rfl rfl rfl ?_
          refine rq_gskip rfl rfl rfl rfl rfl rfl ?_
          refine rq_v rfl rfl rfl (fun _ => ov_pick_f rfl rfl rfl) ?_
          refine rq_nil (fun n91 => ?_)
          have hO93 := hO.drewN n91
          generalize World.drewN w82 n91 = w92 at hO93 ⊢
          refine run_cond_f rfl ?_
          refine run_skip ?_
          refine run_inBlock ?_
          refine run_region ?_
          refine rl_v rfl rfl rfl (ov_add rfl rfl rfl (by omega)) ?_
          refine rl_v rfl rfl rfl (ov_move rfl rfl) ?_
          refine rl_nil ?_
          refine Run.use (ih83 (k + 1) (vw) (cr) _ ?_ ?_) (And.intro (by first | with_reducible rfl | exact slot_int rfl (by first | omega) | rfl) (And.intro rfl (And.intro rfl (And.intro rfl (And.intro rfl (And.intro rfl (And.intro rfl (And.intro rfl trivial))))))))
          · first | omega | (dsimp only; omega)
          · exact ⟨by omega, by omega, row_is hr (pk_no hk0 hP).symm, fun e => hnil (by rw [pk_no hk0 hP] at e; exact e), hO93⟩
      · obtain rfl : k = n := by omega
        have hlw : pk (wvP n D cash g p) (n : Int).toNat = wv n D cash K := wavesRound hg hp
        have hr2 := row_is hr hlw
        rw [hlw] at hnil
        obtain ⟨aw, cw, rfl⟩ := hr2.val
        have hnone := isNone_iff hr2 hnil
        refine run_exit rfl ?_
        refine run_seq ?_
        refine run_seq ?_
        refine run_region ?_
        refine rl_v rfl rfl rfl (ov_move rfl rfl) ?_
        refine rl_v rfl rfl rfl (ov_isnil rfl Try.underlying55 rfl) ?_
        refine rl_nil ?_
        first | refine run_cond_dec rfl (fun h5 => ?_) (fun h5 => ?_) | refine run_cond rfl (fun h5 => ?_) (fun h5 => ?_)
        · refine run_seq ?_
          refine run_region ?_
          refine rl_v rfl rfl rfl (ov_move rfl rfl) ?_
          refine rl_v rfl rfl rfl (ov_assign rfl rfl) ?_
          refine rl_v rfl rfl rfl (ov_assign rfl rfl) ?_
          refine rl_nil ?_
          refine run_ret Try.func35 (res2 Try.results35 rfl rfl) ?_
          exact ⟨K, v, H, rfl, ⟨hsome, hnone.1 h5⟩, by have := pk_len (fallen n D cash K) n; omega, hT, hO.sub (.cons _ (.cons _ (.cons _ (.cons _ (.cons _ (.refl _))))))⟩
        · have hne : wv n D cash K ≠ [] := fun e => by rw [hnone.2 e] at h5; cases h5
          have hl1 := List.length_pos_iff.2 hne
          have hlt := fallen_lt hne
          have hln := pk_len (fallen n D cash (K + 1)) n
          have hlen : (wv n D cash K).length ≤ n := pk_len _ _
          obtain ⟨wb, Gw, rfl, hq1, hq2, rfl, hGw⟩ := hr2.asV hl1
          refine run_skip ?_
          refine run_seq ?_
          refine run_seq ?_
          refine run_region ?_
          refine rl_v rfl rfl rfl (ov_move rfl rfl) ?_
          refine rl_v rfl rfl rfl (ov_len rfl Try.underlying55 rfl) ?_
          refine rl_v rfl rfl rfl (ov_move rfl rfl) ?_
          refine rl_nil ?_
          refine run_block ?_
          refine Run.keep [1, 5, 6, 7, 9, 64, 65, 66] (F' := [(1, _), (5, _), (6, _), (7, _), (9, _), (64, _), (65, _), (66, _)]) rfl ?_
          refine run_loop2 (fun (j : Int) (g2 : Int → Bool) => [(66, .int .i64 j)]) [1, 5, 6, 7, 9, 64, 65] (fun (j : Int) (g2 : Int → Bool) (w94 : World) => 0 ≤ j ∧ j ≤ (wv n D cash K).length ∧ (∀ i, g2 i = (g i ||decide (i ∈ (wv n D cash K).take j.toNat))) ∧ Own w.heap.size w w94 (some (vch wb 3 cw Gw) :: some (vch b8 101 32 (fun i => .int .i64 (upto n (rcv n D p) i))) :: some (vch b6 4 n (fun i => .bool (g2 i))) :: some (vch b5 101 32 (fun i => .int .i64 (upto n (ow n D) i))) :: some (lch b1 37 [.slice ao n c, .slice ac n cc]) :: H)) (fun (j : Int) (g2 : Int → Bool) => (((wv n D cash K).length : Int) - j).toNat) (0) (g) ?_ (And.intro (by first | with_reducible rfl | exact slot_int rfl (by first | omega) | rfl) (And.intro rfl (And.intro rfl (And.intro rfl (And.intro rfl (And.intro rfl (And.intro rfl (And.intro rfl trivial)))))))) ?_
          · exact ⟨by omega, by omega, fun i => by simp, hO⟩
          intro j g2 w94 hIw94 ih95
          obtain ⟨hj0, hj1, hg2, hO⟩ := hIw94
          show Run _ _ _ _ [(66, _), (1, _), (5, _), (6, _), (7, _), (9, _), (64, _), (65, _)] _ _
          refine run_seq ?_
          refine run_region ?_
          refine rl_v rfl rfl rfl (ov_lss rfl rfl rfl) ?_
          refine rl_nil ?_
          refine run_seq ?_
          first | refine run_cond_dec rfl (fun h6 => ?_) (fun h6 => ?_) | refine run_cond rfl (fun h6 => ?_) (fun h6 => ?_)
          · have hxr := wv_mem (lF_mem.2 ⟨j, hj0, h6, rfl⟩)
            refine run_skip ?_
            refine run_seq ?_
            refine run_block ?_
            refine run_seq ?_
            refine run_region ?_
            refine rl_v rfl rfl rfl (ov_index1 rfl Try.underlying55 (by kernel_rfl) rfl rfl ⟨by omega, by omega⟩ (by first | rfl | exact hca (by omega))) ?_
            refine rl_v rfl rfl rfl (ov_load rfl Try.underlying3 rfl rfl (by first | exact (hO.cellI 0 rfl j hj0 (by omega)).trans (congrArg some (hGw j hj0 h6)))) ?_
            refine rl_v rfl rfl rfl (ov_assign rfl rfl) ?_
            refine rl_nil ?_
            refine run_region ?_
            refine rl_v rfl rfl rfl (ov_move rfl rfl) ?_
            refine rl_v rfl rfl rfl (ov_move rfl rfl) ?_
            refine rl_v rfl rfl rfl (ov_index1 rfl Try.underlying48 (by kernel_rfl) rfl rfl ⟨by omega, by omega⟩ (by first | rfl | exact hca (by omega))) ?_
            first | refine rl_storeB rfl rfl rfl (by kernel_rfl) hO 2 rfl rfl ⟨by omega, by omega⟩ rfl (fun w96 hO97 hs98 => ?_)
            refine rl_nil ?_
            refine run_inBlock ?_
            refine run_region ?_
            refine rl_v rfl rfl rfl (ov_add rfl rfl rfl (by omega)) ?_
            refine rl_v rfl rfl rfl (ov_move rfl rfl) ?_
            refine rl_nil ?_
            refine Run.use (ih95 (j + 1) (upd g2 (lF (wv n D cash K) j) true) _ ?_ ?_) (And.intro (by first | with_reducible rfl | exact slot_int rfl (by first | omega) | rfl) (And.intro rfl (And.intro rfl (And.intro rfl (And.intro rfl (And.intro rfl (And.intro rfl (And.intro rfl trivial))))))))
            · first | omega | (dsimp only; omega)
            · exact ⟨by omega, by omega, fun i => by rw [show g2 = _ from funext hg2]; exact fall_up hj0 h6 rfl, hO97⟩
          · have hjl : j = (wv n D cash K).length := by omega
            obtain ⟨c0, rv, ch, rfl, hvt, h3t⟩ := hT
            refine run_exit rfl ?_
            refine run_region ?_
            refine rl_v rfl rfl rfl (ov_move rfl rfl) ?_
            refine rl_v rfl rfl rfl (ov_move rfl rfl) ?_
            refine rl_appV rfl rfl rfl rfl rfl rfl rfl rfl Try.underlying58 info_55 rfl hO 5 hvt rfl rfl rfl rfl ⟨by omega, by omega⟩ (fun v6 c6 w99 hO100 hv6 hs101 => ?_)
            obtain ⟨H', hT', hO'⟩ := OTab.snoc (L := fun r => (wv n D cash r.toNat).length) (F := fun r c => .int .i64 (lF (wv n D cash r.toNat) c)) (H0 := [some (vch b6 4 n (fun i => .bool (g2 i))), some (vch b5 101 32 (fun i => .int .i64 (upto n (ow n D) i))), some (lch b1 37 [.slice ao n c, .slice ac n cc])]) h3t hr2 hv6 ((hO100.sub (.cons_cons _ (.cons _ (.refl _)))).perm (List.Perm.cons _ (List.perm_append_comm (l₁ := [_, _, _]) (l₂ := c6 :: (List.range K).map ch)))) rfl (fun i _ _ => rfl)
            refine rl_v rfl rfl rfl (ov_assign rfl rfl) ?_
            refine rl_nil ?_
            refine run_inBlock ?_
            refine Run.use (ih22 (K + 1) (v6) (g2) (H') _ ?_ ?_) (And.intro rfl (And.intro rfl (And.intro rfl (And.intro rfl trivial))))
            · first | omega | (dsimp only; omega)
            · exact ⟨by omega, hT', fun j hj => (by omega : j = K ∨ j < K).elim (fun e => by rw [e]; exact hne) (fun e => hsome j e), fallen_next hg hg2 hjl, hO'.perm List.perm_append_comm⟩
end Go.Proofs.Ytiambddcpflkhaa
