import Derived.Test.YtbcjfjldmfljgaaGreatHlD
import Derived.Test.YtbcjfjldmfljgaaGreatGaK
set_option maxRecDepth 100000
namespace Go.Proofs.YtbcjfjldmfljgaaGreat
open Go.RowKit Go.Proofs Go.MapKept Hal
def InR (X : Int → Int) (n : Int) (x : Int) : Prop := ∃ q : Int, (0 ≤ q ∧ q < n) ∧ X q = x
structure CrF (h : Hal) (p : Int → Int) (bn : Nat) (Bs : Int → Int) (ln : Nat) (Ls : Int → Int) : Prop where
 b : Rise bn Bs
 l : Rise ln Ls
 n : bn = ln + 1
 c : h.Crd p (InR Bs bn) (InR Ls ln)
def NoC (h : Hal) (p : Int → Int) : Prop := ∃ of1 : Int → Int, Mt h.nl (fun i j => (0 ≤ i ∧ i < h.nb) ∧ h.wn p i j) (fun i => (0 ≤ i ∧ i < h.nb) ∧ 0 < h.gn p i) of1
theorem KD.congrP {n : Int} {op : Int → Int → Prop} {P Q : Int → Prop} {of : Int → Int} (h : KD n op P of) (e : ∀ x : Int, 0 ≤ x → (P x ↔ Q x)) : KD n op Q of :=
 ⟨h.ok, fun x x0 hx => h.one x x0 ((e x x0).2 hx), fun x x0 hx => h.none x x0 fun q => hx ((e x x0).1 q)⟩
section
variable {h : Hal} {p : Int → Int} {L : Int → Nat} {E : Int → Int → Int} {i : Int} {of : Int → Int}
def PE (h : Hal) (p : Int → Int) (i : Int) (x : Int) : Prop := (0 ≤ x ∧ x < i) ∧ 0 < h.gn p x
theorem noC_of (hy : ∀ r : Int, 0 ≤ r → r < h.nb → 0 < h.gn p r → Pick (h.wn p r) h.nl (L r) (E r)) (hK : KD h.nl (opG L E (fun _ => false)) (PE h p h.nb) of) : NoC h p := by
 have hm := Mt.of_kd hK
 refine ⟨of, fun b b0 b1 hb => ?_, hm.inj, hm.cov, hm.only⟩
 have h1 := hm.only b b0 b1 hb
 obtain ⟨⟨k, hk, e⟩, _⟩ := hm.ok b b0 b1 hb
 exact ⟨h1.1, ((hy _ h1.1.1 h1.1.2 h1.2).mem b).1 ⟨k, hk, e⟩ |>.2⟩
theorem crd_of (hy : ∀ r : Int, 0 ≤ r → r < h.nb → 0 < h.gn p r → Pick (h.wn p r) h.nl (L r) (E r)) (hK : KD h.nl (opG L E (fun _ => false)) (PE h p i) of) (i0 : 0 ≤ i) (i1 : i < h.nb) (hg : 0 < h.gn p i) {s : Int → Bool} (hF : KF h.nl (opG L E (fun _ => false)) i of (fun _ => false) s) :
  (∀ k : Int, 0 ≤ k → k < h.nl → s k = true → PE h p i (of k)) ∧ h.Crd p (fun x => x = i ∨ ∃ k : Int, (0 ≤ k ∧ k < h.nl) ∧ s k = true ∧ of k = x) (fun k => (0 ≤ k ∧ k < h.nl) ∧ s k = true) := by
 have hm := Mt.of_kd hK
 have hown : ∀ k : Int, 0 ≤ k → k < h.nl → s k = true → PE h p i (of k) ∧ ∀ j : Int, 0 ≤ j → j < h.nl → opG L E (fun _ => false) (of k) j → s j = true := fun k k0 k1 hk => by
  rcases hF.l.cl k k0 k1 hk with e | ⟨e1, e2⟩
  ·exact Bool.noConfusion e
  ·exact ⟨hm.only k k0 k1 e1, e2⟩
 have hop : ∀ x j : Int, 0 ≤ x → x < h.nb → 0 < h.gn p x → 0 ≤ j → j < h.nl → h.wn p x j → opG L E (fun _ => false) x j := fun x j x0 x1 hx j0 j1 hw => ⟨((hy x x0 x1 hx).mem j).2 ⟨⟨j0, j1⟩, hw⟩, rfl⟩
 refine ⟨fun k k0 k1 hk => (hown k k0 k1 hk).1, ⟨fun x hx => ?_, fun j hj => hj.1, fun x j hx j0 j1 hw => ⟨⟨j0, j1⟩, ?_⟩⟩⟩
 ·rcases hx with e | ⟨k, hk, hs, e⟩
  ·rw [e]; exact ⟨⟨i0, i1⟩, hg⟩
  ·have := (hown k hk.1 hk.2 hs).1
   rw [e] at this
   unfold PE at this
   exact ⟨⟨this.1.1, by omega⟩, this.2⟩
 ·rcases hx with e | ⟨k, hk, hs, e⟩
  ·rw [e] at hw; exact hF.all j j0 j1 (hop i j i0 i1 hg j0 j1 hw)
  ·have h1 := hown k hk.1 hk.2 hs
   rw [e] at h1
   have h2 := h1.1
   unfold PE at h2
   exact h1.2 j j0 j1 (hop x j h2.1.1 (by omega) h2.2 j0 j1 hw)
end
theorem Crd.congr {h : Hal} {p : Int → Int} {B L B' L' : Int → Prop} (hc : h.Crd p B L) (hB : ∀ x, B' x → B x) (hL : ∀ x, L x ↔ L' x) : h.Crd p B' L' :=
 ⟨fun i hi => hc.br i (hB i hi), fun j hj => hc.lr j ((hL j).2 hj), fun i j hi j0 j1 hw => (hL j).1 (hc.wl i j (hB i hi) j0 j1 hw)⟩
theorem perm_gv {α : Type} {ab sb bb lb m : α} {R : List α} : (ab :: sb :: bb :: lb :: m :: R).Perm (bb :: sb :: lb :: m :: ab :: R) := by
 classical
 rw [List.perm_iff_count]
 intro z
 simp only [List.count_cons]
 omega
set_option maxHeartbeats 8000000 in
theorem crowdH_any (wa pa : Option Addr) (wc pc : Nat) (h : Hal) (p : Int → Int) (w : World) (hM : HalM w.heap.size w wa pa h p) :
  Calls Tryz.prog 76 #[.slice wa h.nb wc, .slice pa h.nl pc] w fun e w' => ∃ (ba : Option Addr) (bn bc : Nat) (Bs : Int → Int) (la : Option Addr) (ln lc : Nat) (Ls : Int → Int) (cb cl : Option Blk), e = .returned (.tuple #[.slice ba bn bc, .slice la ln lc]) ∧ IRow (.slice ba bn bc) 3 bn (fun q => iv (Bs q)) cb ∧ IRow (.slice la ln lc) 3 ln (fun q => iv (Ls q)) cl ∧
   Own w.heap.size w w' [cb, cl] ∧ ((ba = none ∧ bn = 0 ∧ NoC h p) ∨ (CrF h p bn Bs ln Ls)) := by
 have hnb := hM.nb
 have hnl := hM.nl
 refine calls_of_run (F := [(0, _), (1, _)]) Tryz.func76 rfl Tryz.ntmps76 rfl rfl ?_
 have hO0 := Own.init w
 refine run_seq <| run_region <| rl_v rfl rfl rfl (ov_assign rfl rfl) <| rl_v rfl rfl rfl (ov_assign rfl rfl) <| rl_nil <| run_seq <| run_region <| rl_v rfl rfl rfl (ov_move rfl rfl) <| rl_v rfl rfl rfl (ov_len rfl Tryz.underlying22 rfl) <| rl_v rfl rfl rfl (ov_assign rfl rfl) <| rl_nil <| run_seq <| run_region <| rl_v rfl rfl rfl (ov_move rfl rfl) <| rl_v rfl rfl rfl (ov_move rfl rfl) ?_
 refine rl_call callable_90 rfl rfl rfl rfl rfl rfl (eagerH_any wa pa wc pc h p _ (hO0.halM hM)) (fun e1 w2 hp3 => ?_)
 obtain ⟨ea, ec, L, E, rv, c, ch, rfl, hG, hOa⟩ := hp3
 refine ⟨_, rfl, ?_⟩
 have hO4 := hO0.join hOa
 have hOA := hO4
 have hTb : OTab (.slice ea h.nb ec) 30 3 h.nb L (fun r k => iv (E r k)) (c :: (List.range h.nb).map ch) := ⟨c, rv, ch, rfl, hG.o, hG.r⟩
 have hIT := hTb.reads (H' := []) (hOA.sub (List.sublist_append_left _ _))
 have hIv := hG.o.reads hOA 0 rfl
 obtain ⟨vb, vo, hva, hvr⟩ := hIv.open
 have hLn : ∀ i : Int, 0 ≤ i → i < h.nb → L i ≤ 64 ∧ ∀ k : Int, 0 ≤ k → k < L i → 0 ≤ E i k ∧ E i k < h.nl := fun i i0 i1 => by
  by_cases hg : 0 < h.gn p i
  ·have hP := hG.yes i i0 i1 hg
   exact ⟨by have := hP.le; omega, fun k k0 k1 => ((hP.mem (E i k)).1 ⟨k, ⟨k0, k1⟩, rfl⟩).1⟩
  ·have := (hG.no_ i i0 i1 hg).2
   exact ⟨by omega, fun k k0 k1 => by omega⟩
 have hI0 := Own.init w2
 refine rl_v rfl rfl rfl (ov_move rfl rfl) ?_
 refine rl_call callable_52 rfl rfl rfl rfl rfl rfl (newMat_any ea h.nb ec h.nl _ (by omega) (by omega)) (fun e5 w6 hp7 => ?_)
 obtain ⟨mb, lb, bb, rfl, hOb⟩ := hp7
 refine ⟨_, rfl, ?_⟩
 have hO8 := hI0.join hOb
 have hK0 : KD h.nl (opG L E (fun _ => false)) (PE h p 0) (fun _ => -1) := (KD.init h.nl _ (fun _ => -1) fun k k0 k1 => by show (-1 : Int) < 0; decide).congrP fun x _ => ⟨False.elim, fun q => by unfold PE at q; omega⟩
 refine rl_v rfl rfl rfl (ov_assign rfl rfl) <| rl_nil <| run_seq <| run_seq <| run_region <| rl_v rfl rfl rfl (ov_move rfl rfl) <| rl_v rfl rfl rfl (ov_nil rfl rfl) <| rl_v rfl rfl rfl (ov_fieldS rfl Tryz.underlying112 rfl (fo := 0) rfl (by kernel_rfl) rfl) ?_
 refine rl_v rfl rfl rfl (ov_load rfl Tryz.underlying85 rfl rfl (by exact hO8.cellL 2 rfl (off := 0) rfl)) ?_
 refine rl_v rfl rfl rfl (ov_len rfl Tryz.underlying85 rfl) <| rl_v rfl rfl rfl (ov_move rfl rfl) <| rl_nil <| run_block <| Run.keep [4, 5, 6, 7, 23, 24, 25] (F' := [(4, _), (5, _), (6, _), (7, _), (23, _), (24, _), (25, _)]) rfl <| run_loop1 (fun (i : Nat) => [(25, .int .i64 (i : Int)), (4, .slice none 0 0), (5, .slice none 0 0)]) [6, 7, 23, 24] (fun (i : Nat) (w9 : World) => i ≤ h.nb ∧ ∃ (of : Int → Int) (Lo : Int → Value), KD h.nl (opG L E (fun _ => false)) (PE h p i) of ∧ (∀ k : Int, 0 ≤ k → k < h.nl → -1 ≤ of k ∧ of k < h.nb) ∧ Own w2.heap.size w2 w9 [some (vch bb 3 h.nl (fun j => iv (of j))), some (vch lb 3 h.nb Lo), mtB mb lb bb ea h.nb ec h.nl]) (fun (i : Nat) => h.nb - i) (0) ?_ (And.intro (by exact slot_int rfl (by first | omega)) (And.intro rfl (And.intro rfl (And.intro rfl (And.intro rfl (And.intro rfl (And.intro rfl trivial))))))) ?_
 ·exact ⟨Nat.zero_le _, fun _ => -1, fun _ => iv (-1), hK0, fun k k0 k1 => by show (-1 : Int) ≤ -1 ∧ (-1 : Int) < h.nb; omega, hO8⟩
 intro i w9 hIw9 ih10
 obtain ⟨hi, of, Lo, hK, hofr, hO1⟩ := hIw9
 show Run _ _ _ _ [(25, _), (4, _), (5, _), (6, _), (7, _), (23, _), (24, _)] _ _
 refine run_seq <| run_region <| rl_v rfl rfl rfl (ov_lss rfl rfl rfl) <| rl_nil <| run_seq ?_
 first | refine run_cond_dec rfl (fun c1 => ?_) (fun c1 => ?_) | refine run_cond rfl (fun c1 => ?_) (fun c1 => ?_)
 ·have hri := hG.r i (by omega)
  obtain ⟨ra, rc, erv⟩ := Row.val hri
  rw [erv] at hri
  refine run_skip <| run_seq <| run_block <| run_seq <| run_region <| rl_v rfl rfl rfl (ov_move rfl rfl) <| rl_v rfl rfl rfl (ov_index1 rfl Tryz.underlying85 (by kernel_rfl) rfl rfl ⟨by omega, by omega⟩ (by exact hva (by omega))) ?_
  refine rl_v rfl rfl rfl (ov_load rfl Tryz.underlying30 rfl rfl (by exact (hvr _ hO1.below i (by omega) c1).trans (congrArg some erv))) ?_
  refine rl_v rfl rfl rfl (ov_assign rfl rfl) <| rl_v rfl rfl rfl (ov_assign rfl rfl) <| rl_nil <| run_seq <| run_seq <| run_region <| rl_v rfl rfl rfl (ov_move rfl rfl) <| rl_v rfl rfl rfl (ov_isnil rfl Tryz.underlying30 rfl) <| rl_nil ?_
  first | refine run_cond_dec rfl (fun c2 => ?_) (fun c2 => ?_) | refine run_cond rfl (fun c2 => ?_) (fun c2 => ?_)
  ·have hng : ¬ 0 < h.gn p i := fun hg => by
    have hP := hG.yes i (by omega) c1 hg
    rcases h.gn_at p i with e | ⟨j, hj, hw⟩
    ·omega
    ·obtain ⟨k, hk, _⟩ := (hP.mem j).2 ⟨hj, hw⟩
     obtain ⟨b, hb⟩ := IRow.addr hri
     have hb2 := hb (by omega)
     rw [hb2] at c2
     exact Bool.noConfusion c2
   refine run_exit rfl <| run_region <| rl_v rfl rfl rfl (ov_add rfl rfl rfl (by omega)) ?_
   refine rl_v rfl rfl rfl (ov_move rfl rfl) <| rl_nil ?_
   refine Run.use (ih10 (i + 1) _ ?_ ?_) (And.intro (by exact slot_int rfl (by first | omega)) (And.intro rfl (And.intro rfl (And.intro rfl (And.intro rfl (And.intro rfl (And.intro rfl trivial)))))))
   ·first | omega | (dsimp only; omega)
   ·exact ⟨by omega, of, Lo, hK.congrP fun x _ => ⟨fun q => ⟨⟨q.1.1, by have := q.1.2; omega⟩, q.2⟩, fun q => ⟨⟨q.1.1, Classical.byContradiction fun hn => by { have := q.1; have e : x = i := (by omega); rw [e] at q; exact hng q.2 }⟩, q.2⟩⟩, hofr, hO1⟩
  ·have hgp : 0 < h.gn p i := Classical.byContradiction fun hg => by
    have := (hG.no_ i (by omega) c1 hg).1
    rw [erv] at this
    injection this with e1 _ _
    rw [e1] at c2
    exact Bool.noConfusion c2
   refine run_skip <| run_seq <| run_region <| rl_v rfl rfl rfl (ov_move rfl rfl) ?_
   refine rl_make (h.nl) rfl rfl rfl rfl Tryz.underlying84 info_4 rfl hO1 rfl rfl (by rfl) (by rfl) ⟨by omega, by omega⟩ (fun sb w11 hO12 hs13 => ?_)
   refine rl_v rfl rfl rfl (ov_assign rfl rfl) <| rl_nil <| run_seq <| run_seq <| run_region <| rl_v rfl rfl rfl (ov_move rfl rfl) <| rl_v rfl rfl rfl (ov_move rfl rfl) <| rl_v rfl rfl rfl (ov_move rfl rfl) ?_
   refine rl_make (h.nl) rfl rfl rfl rfl Tryz.underlying84 info_4 rfl hO12 rfl rfl (by rfl) (by rfl) ⟨by omega, by omega⟩ (fun ab w14 hO15 hs16 => ?_)
   have hOp := hO15.perm perm_gv
   have huns := uns_nonneg (fun _ => false) h.nl
   refine rl_v rfl rfl rfl (ov_move rfl rfl) ?_
   refine rl_call callable_53 rfl rfl rfl rfl rfl rfl (giveH_any (nb := h.nb) (n := h.nl) (by omega) (by omega) hIT (fun i i0 i1 => by have := (hLn i i0 i1).1; omega) (fun i k i0 i1 k0 k1 => (hLn i i0 i1).2 k k0 k1) bb sb lb mb ab ec (fun _ => false) [some (vch ab 4 h.nl (fun _ => .bool false))] (fun w' Lo of s hO j j0 j1 => hO.cellI 4 rfl j j0 j1) (uns (fun _ => false) h.nl).toNat i of (fun _ => false) Lo _ (by omega) ⟨by omega, c1, hofr, hK.ok, hOp⟩) (fun e17 w18 hp19 => ?_)
   obtain ⟨b, of1, s1, Lo1, rfl, hO2, hSb, hFb⟩ := hp19
   refine ⟨_, rfl, ?_⟩
   refine rl_nil ?_
   first | refine run_cond_dec rfl (fun c3 => ?_) (fun c3 => ?_) | refine run_cond rfl (fun c3 => ?_) (fun c3 => ?_)
   ·obtain ⟨hS1, hS2⟩ := hSb c3
    have hK1 : KD h.nl (opG L E (fun _ => false)) (PE h p ((i + 1 : Nat) : Int)) of1 := hK.step (fun q => by have := q.1; omega) hS1 fun x _ => ⟨fun q => by
     by_cases e : x = i
     ·exact .inr e
     ·exact .inl ⟨by have := q.1; omega, q.2⟩, fun q => q.elim (fun q => ⟨by have := q.1; omega, q.2⟩) fun e => by rw [e]; exact ⟨by omega, hgp⟩⟩
    refine run_exit rfl <| run_region <| rl_v rfl rfl rfl (ov_add rfl rfl rfl (by omega)) ?_
    refine rl_v rfl rfl rfl (ov_move rfl rfl) <| rl_nil ?_
    refine Run.use (ih10 (i + 1) _ ?_ ?_) (And.intro (by exact slot_int rfl (by first | omega)) (And.intro rfl (And.intro rfl (And.intro rfl (And.intro rfl (And.intro rfl (And.intro rfl trivial)))))))
    ·first | omega | (dsimp only; omega)
    ·exact ⟨by omega, of1, Lo1, hK1, fun k k0 k1 => ⟨hS1.rng k k0 k1 (hofr k k0 k1).1, hS2 k k0 k1⟩, hO2.sub (.cons_cons _ (.cons _ (.cons_cons _ (.cons_cons _ (List.nil_sublist _)))))⟩
   ·have hbf : b = false := c3
    obtain ⟨e1, hF1⟩ := hFb hbf
    subst e1
    obtain ⟨hPE, hCr⟩ := crd_of hG.yes hK (by omega) c1 hgp hF1
    have hm := Mt.of_kd hK
    have hOn := hO2.nil_cons.nil_cons
    refine run_skip <| run_seq <| run_region <| rl_v rfl rfl rfl (ov_move rfl rfl) <| rl_v rfl rfl rfl (ov_move rfl rfl) <| rl_ow rfl (ow_one rfl rfl rfl Tryz.underlying30 info_3 rfl hOn rfl rfl) ?_
    rintro _ w20 ⟨b42, rfl, hO21, hs22⟩
    have hz0 : IRow (.slice none 0 0) 3 0 (fun _ => iv 0) none := IRow.nil _ _
    refine rl_ow rfl (ow_app1 rfl rfl rfl Tryz.underlying30 info_3 rfl hO21 0 hz0 rfl rfl rfl rfl ⟨by omega, by omega⟩) ?_
    rintro _ w23 ⟨v43, c43, rfl, hO24, hv43, hs25⟩
    have hv44 : IRow v43 3 (1 + 0) (fun q => iv (if q = 0 then (i : Int) else of1 ((fun _ => (0 : Int)) (q - 1)))) c43 := hv43.congr fun q q0 q1 => by
     have : q = 0 := by omega
     rw [this, if_pos rfl]; exact upd_same ..
    refine rl_v rfl rfl rfl (ov_assign rfl rfl) <| rl_nil <| run_seq <| run_seq <| run_region <| rl_v rfl rfl rfl (ov_move rfl rfl) <| rl_v rfl rfl rfl (ov_len rfl Tryz.underlying84 rfl) <| rl_v rfl rfl rfl (ov_move rfl rfl) <| rl_nil <| run_block <| Run.keep [4, 5, 7, 44, 45, 46] (F' := [(4, _), (5, _), (7, _), (44, _), (45, _), (46, _)]) rfl <| run_loop4 (fun (j : Nat) (v4 : Value) (v5 : Value) (c : Nat) => [(46, .int .i64 (j : Int)), (4, v4), (5, v5)]) [7, 44, 45] (fun (j : Nat) (v4 : Value) (v5 : Value) (c : Nat) (w26 : World) => j ≤ h.nl ∧ ∃ (K : Int → Int) (c4 c5 : Option Blk), Pick (fun k => s1 k = true) j c K ∧ IRow v4 3 (1 + c) (fun q => iv (if q = 0 then (i : Int) else of1 (K (q - 1)))) c4 ∧ IRow v5 3 c (fun q => iv (K q)) c5 ∧ Own w2.heap.size w2 w26 (c4 :: c5 :: gvL bb sb lb mb ea h.nb ec h.nl Lo1 of1 s1 [some (vch ab 4 h.nl (fun _ => .bool false))])) (fun (j : Nat) (v4 : Value) (v5 : Value) (c : Nat) => h.nl - j) (0) (v43) (.slice none 0 0) (0) ?_ (And.intro (by exact slot_int rfl (by first | omega)) (And.intro rfl (And.intro rfl (And.intro rfl (And.intro rfl (And.intro rfl trivial)))))) ?_
    ·exact ⟨Nat.zero_le _, fun _ => 0, c43, none, Pick.nil _ _, hv44, IRow.nil _ _, hO24⟩
    intro j v4 v5 c w26 hIw26 ih27
    obtain ⟨hj, K, c4, c5, hP, hv4, hv5, hO3⟩ := hIw26
    show Run _ _ _ _ [(46, _), (4, _), (5, _), (7, _), (44, _), (45, _)] _ _
    refine run_seq <| run_region <| rl_v rfl rfl rfl (ov_lss rfl rfl rfl) <| rl_nil <| run_seq ?_
    first | refine run_cond_dec rfl (fun c6 => ?_) (fun c6 => ?_) | refine run_cond rfl (fun c6 => ?_) (fun c6 => ?_)
    ·have hcle := hP.le
     refine run_skip <| run_seq <| run_block <| run_seq <| run_region <| rl_v rfl rfl rfl (ov_move rfl rfl) <| rl_v rfl rfl rfl (ov_index1 rfl Tryz.underlying84 (by kernel_rfl) rfl rfl ⟨by omega, by omega⟩ (by rfl)) ?_
     refine rl_v rfl rfl rfl (ov_load rfl Tryz.underlying4 rfl rfl (by exact hO3.cellI 3 rfl (j : Int) (by omega) (by omega))) ?_
     refine rl_v rfl rfl rfl (ov_assign rfl rfl) <| rl_v rfl rfl rfl (ov_assign rfl rfl) <| rl_nil <| run_seq <| run_region <| rl_v rfl rfl rfl (ov_move rfl rfl) <| rl_nil ?_
     first | refine run_cond_dec rfl (fun c7 => ?_) (fun c7 => ?_) | refine run_cond rfl (fun c7 => ?_) (fun c7 => ?_)
     ·refine run_seq <| run_region <| rl_v rfl rfl rfl (ov_move rfl rfl) <| rl_v rfl rfl rfl (ov_move rfl rfl) <| rl_ow rfl (ow_one rfl rfl rfl Tryz.underlying30 info_3 rfl hO3 rfl rfl) ?_
      rintro _ w28 ⟨b54, rfl, hO29, hs30⟩
      refine rl_ow rfl (ow_app1 rfl rfl rfl Tryz.underlying30 info_3 rfl hO29 1 hv5 rfl rfl rfl rfl ⟨by omega, by omega⟩) ?_
      rintro _ w31 ⟨v55, c55, rfl, hO32, hv55, hs33⟩
      refine rl_v rfl rfl rfl (ov_assign rfl rfl) <| rl_nil <| run_region <| rl_v rfl rfl rfl (ov_move rfl rfl) <| rl_v rfl rfl rfl (ov_move rfl rfl) <| rl_v rfl rfl rfl (ov_nil rfl rfl) <| rl_v rfl rfl rfl (ov_fieldS rfl Tryz.underlying112 rfl (fo := 2) rfl (by kernel_rfl) rfl) ?_
      refine rl_v rfl rfl rfl (ov_load rfl Tryz.underlying30 rfl rfl (by exact hO32.cellL 5 rfl (off := 2) rfl)) ?_
      refine rl_v rfl rfl rfl (ov_move rfl rfl) <| rl_v rfl rfl rfl (ov_index1 rfl Tryz.underlying30 (by kernel_rfl) rfl rfl ⟨by omega, by omega⟩ (by rfl)) ?_
      refine rl_v rfl rfl rfl (ov_load rfl Tryz.underlying3 rfl rfl (by exact hO32.cellI 2 rfl (j : Int) (by omega) (by omega))) ?_
      refine rl_ow rfl (ow_one rfl rfl rfl Tryz.underlying30 info_3 rfl hO32 rfl rfl) ?_
      rintro _ w34 ⟨b64, rfl, hO35, hs36⟩
      refine rl_ow rfl (ow_app1 rfl rfl rfl Tryz.underlying30 info_3 rfl hO35 0 hv4 rfl rfl rfl rfl ⟨by omega, by omega⟩) ?_
      rintro _ w37 ⟨v65, c65, rfl, hO38, hv65, hs39⟩
      have hv66 : IRow v65 3 (1 + (c + 1)) (fun q => iv (if q = 0 then (i : Int) else of1 (upd K c j (q - 1)))) c65 := hv65.congr fun q q0 q1 => by
       unfold upd
       by_cases e : q = ((1 + c : Nat) : Int)
       ·rw [if_pos e, if_neg (by omega), if_pos (by omega)]
       ·rw [if_neg e]
        dsimp only
        by_cases z : q = 0
        ·rw [if_pos z, if_pos z]
        ·rw [if_neg z, if_neg z, if_neg (by omega)]
      refine rl_v rfl rfl rfl (ov_assign rfl rfl) <| rl_nil <| run_inBlock <| run_region <| rl_v rfl rfl rfl (ov_add rfl rfl rfl (by omega)) ?_
      refine rl_v rfl rfl rfl (ov_move rfl rfl) <| rl_nil ?_
      refine Run.use (ih27 (j + 1) (v65) (v55) (c + 1) _ ?_ ?_) (And.intro (by exact slot_int rfl (by first | omega)) (And.intro rfl (And.intro rfl (And.intro rfl (And.intro rfl (And.intro rfl trivial))))))
      ·first | omega | (dsimp only; omega)
      ·exact ⟨by omega, upd K c j, c65, c55, hP.yes c7, hv66, hv55.congr (fun q _ _ => by unfold upd; split <;> rfl), hO38⟩
     ·refine run_skip <| run_inBlock <| run_region <| rl_v rfl rfl rfl (ov_add rfl rfl rfl (by omega)) ?_
      refine rl_v rfl rfl rfl (ov_move rfl rfl) <| rl_nil ?_
      refine Run.use (ih27 (j + 1) (v4) (v5) (c) _ ?_ ?_) (And.intro (by exact slot_int rfl (by first | omega)) (And.intro rfl (And.intro rfl (And.intro rfl (And.intro rfl (And.intro rfl trivial))))))
      ·first | omega | (dsimp only; omega)
      ·exact ⟨by omega, K, c4, c5, hP.no (fun q => by rw [q] at c7; exact Bool.noConfusion c7), hv4, hv5, hO3⟩
    ·have hjn : j = h.nl := by omega
     rw [hjn] at hP
     obtain ⟨va, vc, rfl⟩ := Row.val hv4
     obtain ⟨ua, uc, rfl⟩ := Row.val hv5
     have hKs : ∀ q : Int, 0 ≤ q → q < c → (0 ≤ K q ∧ K q < h.nl) ∧ s1 (K q) = true := fun q q0 q1 => (hP.mem (K q)).1 ⟨q, ⟨q0, q1⟩, rfl⟩
     have hinj : ∀ a b : Int, 0 ≤ a → a < ((1 + c : Nat) : Int) → 0 ≤ b → b < ((1 + c : Nat) : Int) → (if a = 0 then (i : Int) else of1 (K (a - 1))) = (if b = 0 then (i : Int) else of1 (K (b - 1))) → a = b := fun a b a0 a1 b0 b1 e => by
      have hlt : ∀ q : Int, 0 ≤ q → q < c → 0 ≤ of1 (K q) ∧ of1 (K q) < i := fun q q0 q1 => by
       have h1 := hKs q q0 q1
       exact (hPE _ h1.1.1 h1.1.2 h1.2).1
      by_cases za : a = 0 <;> by_cases zb : b = 0
      ·omega
      ·rw [if_pos za, if_neg zb] at e
       have := hlt (b - 1) (by omega) (by omega)
       omega
      ·rw [if_neg za, if_pos zb] at e
       have := hlt (a - 1) (by omega) (by omega)
       omega
      ·rw [if_neg za, if_neg zb] at e
       have ha := hKs (a - 1) (by omega) (by omega)
       have hb := hKs (b - 1) (by omega) (by omega)
       have h1 := hlt (a - 1) (by omega) (by omega)
       have h2 := hm.inj _ _ ha.1.1 ha.1.2 hb.1.1 hb.1.2 h1.1 e
       rcases Int.lt_trichotomy (a - 1) (b - 1) with d | d | d
       ·have := hP.inc.inc _ _ (by omega) d (by omega); omega
       ·omega
       ·have := hP.inc.inc _ _ (by omega) d (by omega); omega
     have hcle := hP.le
     refine run_exit rfl <| run_seq <| run_region <| rl_v rfl rfl rfl (ov_move rfl rfl) ?_
     refine rl_call callable_17 rfl rfl rfl rfl rfl rfl (sortR_any va vc (1 + c) (fun q => if q = 0 then (i : Int) else of1 (K (q - 1))) c4 _ w2.heap.size w2 _ hv4 (by omega) hinj hO3) (fun e40 w41 hp42 => ?_)
     obtain ⟨rfl, Bs, c8, hvB, hRi, hmem, hO4⟩ := hp42
     refine ⟨_, rfl, ?_⟩
     have hCF : CrF h p (1 + c) Bs c K := ⟨hRi, hP.inc, by omega, Crd.congr hCr (fun x hx => by
      obtain ⟨q, hq, e⟩ := (hmem x).1 hx
      by_cases z : q = 0
      ·rw [if_pos z] at e; exact .inl e.symm
      ·rw [if_neg z] at e
       have := hKs (q - 1) (by omega) (by omega)
       exact .inr ⟨_, this.1, this.2, e⟩) (fun x => ⟨fun hx => (hP.mem x).2 hx, fun hx => (hP.mem x).1 hx⟩)⟩
     refine rl_nil <| run_seq <| run_region <| rl_v rfl rfl rfl (ov_move rfl rfl) <| rl_v rfl rfl rfl (ov_move rfl rfl) <| rl_v rfl rfl rfl (ov_assign rfl rfl) <| rl_v rfl rfl rfl (ov_assign rfl rfl) <| rl_nil <| run_ret Tryz.func76 (res2 Tryz.results76 rfl rfl) ?_
     exact ⟨va, 1 + c, vc, Bs, ua, c, uc, K, c8, c5, rfl, hvB, hv5, (hOA.join hO4).sub (.cons_cons _ (.cons_cons _ (List.nil_sublist _))), .inr hCF⟩
 ·have hib : i = h.nb := by omega
  rw [hib] at hK
  refine run_exit rfl <| run_seq <| run_region <| rl_v rfl rfl rfl (ov_assign rfl rfl) <| rl_v rfl rfl rfl (ov_assign rfl rfl) <| rl_nil <| run_ret Tryz.func76 (res2 Tryz.results76 rfl rfl) ?_
  exact ⟨none, 0, 0, fun _ => 0, none, 0, 0, fun _ => 0, none, none, rfl, IRow.nil _ _, IRow.nil _ _, ((hOA.join hO1).sub (List.nil_sublist _)).nil_cons.nil_cons, .inl ⟨rfl, rfl, noC_of hG.yes hK⟩⟩
end Go.Proofs.YtbcjfjldmfljgaaGreat
