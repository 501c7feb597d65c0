import Derived.Test.YtbcjfjldmfljgaaGreatPrB
import Derived.Test.YtbcjfjldmfljgaaGreatPrA
set_option maxRecDepth 100000
namespace Go.Proofs.YtbcjfjldmfljgaaGreat
open Go.RowKit Go.Proofs Go.MapKept
section
variable {P : Program} {N : Nat} {o : Oper} {F : Fr} {w : World} {B : Nat} {w0 : World} {H : List (Option Blk)}
theorem ow_uv {w' : World} {v : Value} (hd : o.dst = none) (hv : ∀ a, Holds N F a → (execOp a.eval o).run P w = .ok (.value v) w') : OpW P N o F w (fun F' w'' => F' = F ∧ w'' = w') := by
 intro a ha K Q hK
 unfold Oper.wp
 rw [hv a ha]
 show K (a.put o.dst v) w'
 rw [hd]
 exact hK _ _ _ ⟨rfl, rfl⟩ ha
theorem ow_clear {T E : TypeId} {x : Operand} {z : Value} {s by_ off n cap : Nat} {y : Blk} (hd : o.dst = none) (ho : o.op = .call { callee := .builtin .clear, args := #[x], argTypes := #[T] }) (hT : P.underlying T = some (.slice E))
  (hinfo : (P.info? E).map (fun i => (i.zero, i.size, i.bytes)) = some (some z, s, by_)) (hz : z.cells.toList.all (·.oneCell') = true) (hzs : z.cells.size = s) (hs : 0 < s) (hO : Own B w0 w H) (kk : Nat) (hk : H[kk]? = some (some y)) (hm : y.m = none)
  (hx : Fr.ev F x = some (.slice (some ⟨y.b, off, none⟩) n cap)) (hfit : off + n * s ≤ y.n) :
  OpW P N o F w (fun F' w' => F' = F ∧ ∃ f', (∀ j : Nat, j < off → f' j = y.f j) ∧ Own B w0 w' (H.set kk (some { y with f := f' })) ∧ w'.heap.size = w.heap.size) := by
 obtain ⟨i, hi, hz0, hsz, hby⟩ := info_parts hinfo
 obtain ⟨vs, hvs⟩ : ∃ vs, vs = (Builtin.zeroCells z.cells n).toList := ⟨_, rfl⟩
 have hlen : vs.length = n * s := by
  rw [hvs]
  unfold Builtin.zeroCells
  simp [hzs]
 have h1 : ∀ v ∈ vs, v.oneCell' = true := fun v hv => by
  rw [hvs] at hv
  unfold Builtin.zeroCells at hv
  simp only [Array.toList_map, List.mem_map] at hv
  obtain ⟨j, hj, e⟩ := hv
  rw [← e]
  have hlt : j % z.cells.size < z.cells.size := Nat.mod_lt _ (by omega)
  rw [getElem!_pos z.cells _ hlt]
  rw [List.all_eq_true] at hz
  exact hz _ (by simp)
 by_cases hn : n = 0
 ·refine (ow_uv (w' := w) (v := .tuple #[]) hd (fun a ha => ?_)).mono fun F' w' ⟨e1, e2⟩ => ⟨e1, y.f, fun _ _ => rfl, ?_, by rw [e2]⟩
  ·obtain ⟨cs, he⟩ := execOp_bi a.eval .clear [x] #[T] ho
   rw [he]
   subst hn
   simp [builtin, ha.ev hx, Builtin.clear_, run_underlying hT, Result.andThen]
  ·rw [e2]
   exact hO.congr kk hk y.f (fun _ _ => rfl) hm
 ·refine (ow_uv (w' := w.setCells y.b off vs) (v := .tuple #[]) hd (fun a ha => ?_)).mono fun F' w' ⟨e1, e2⟩ => ⟨e1, fun j => if off ≤ j ∧ j < off + vs.length then vs.getD (j - off) undef else y.f j, fun j hj => if_neg (by omega), ?_, by rw [e2]; exact size_setCells _ _ _ _⟩
  ·obtain ⟨cs, he⟩ := execOp_bi a.eval .clear [x] #[T] ho
   rw [he]
   have hst := run_storeCells_cells (P := P) y.b off vs 0 w (fun j hj => by
    rw [Nat.add_zero]
    exact Option.isSome_iff_exists.2 ⟨_, hO.cell kk hk (off + j) (by omega) hm⟩) (fun j _ => (hO.get kk hk hm).frozen _) h1
   rw [Nat.add_zero, hvs] at hst
   rw [hvs]
   simp [builtin, ha.ev hx, Builtin.clear_, run_underlying hT, Result.andThen, hn, zeroValue, typeInfo, hi, hz0, hst]
  ·rw [e2]
   exact hO.storeN vs kk hk off hm
end
theorem cellAt {B : Nat} {w0 w : World} {H : List (Option Blk)} {b cap : Nat} {t : TypeId} {G : Int → Value} (hO : Own B w0 w (some (vch b t cap G) :: H)) {j z : Nat} (hz : z = j) (hj : j < cap) : w.cell? ⟨b, z, none⟩ = some (G (j : Int)) := by
 rw [hz]
 have := hO.cellI 0 rfl (j : Int) (by omega) (by omega)
 rw [Nat.zero_add, Int.toNat_natCast] at this
 exact this
structure Cpt (X : Int → Int) (j : Int) (k : Nat) (Y : Int → Int) : Prop where
 r : Rise k Y
 same : ∀ v : Int, (∃ i : Int, (0 ≤ i ∧ i < k) ∧ Y i = v) ↔ ∃ i : Int, (0 ≤ i ∧ i < j) ∧ X i = v
 last : 1 ≤ k ∧ Y ((k : Int) - 1) = X (j - 1)
theorem Cpt.eq {X Y : Int → Int} {j : Int} {k : Nat} (h : Cpt X j k Y) (j0 : 1 ≤ j) (e : X j = X (j - 1)) : Cpt X (j + 1) k Y := by
 refine ⟨h.r, fun v => (h.same v).trans ⟨fun ⟨i, hi, q⟩ => ⟨i, by omega, q⟩, fun ⟨i, hi, q⟩ => ?_⟩, h.last.1, h.last.2.trans (by rw [show j + 1 - 1 = j by omega, e])⟩
 by_cases c : i = j
 ·exact ⟨j - 1, by omega, by rw [← e, ← c]; exact q⟩
 ·exact ⟨i, by omega, q⟩
theorem Cpt.ne {X Y : Int → Int} {j : Int} {k : Nat} (h : Cpt X j k Y) (j0 : 1 ≤ j) (e : X (j - 1) < X j) : Cpt X (j + 1) (k + 1) (upd Y k (X j)) := by
 have hl := h.last
 refine ⟨⟨fun a b a0 ab b1 => ?_⟩, fun v => ⟨fun ⟨i, hi, q⟩ => ?_, fun ⟨i, hi, q⟩ => ?_⟩, by omega, ?_⟩
 ·by_cases c : b = k
  ·rw [c, upd_same, upd_ne _ _ (by omega)]
   by_cases d : a = (k : Int) - 1
   ·rw [d, hl.2]; exact e
   ·have := h.r.inc a ((k : Int) - 1) a0 (by omega) (by omega)
    omega
  ·rw [upd_ne _ _ c, upd_ne _ _ (by omega)]
   exact h.r.inc a b a0 ab (by omega)
 ·by_cases c : i = k
  ·rw [c, upd_same] at q
   exact ⟨j, by omega, q⟩
  ·rw [upd_ne _ _ c] at q
   obtain ⟨x, hx, r⟩ := (h.same v).1 ⟨i, by omega, q⟩
   exact ⟨x, by omega, r⟩
 ·by_cases c : i = j
  ·exact ⟨k, by omega, by rw [upd_same, ← c]; exact q⟩
  ·obtain ⟨x, hx, r⟩ := (h.same v).2 ⟨i, by omega, q⟩
   exact ⟨x, by omega, by rw [upd_ne _ _ (by omega)]; exact r⟩
 ·rw [show ((k + 1 : Nat) : Int) - 1 = k by omega, upd_same, show j + 1 - 1 = j by omega]
set_option maxHeartbeats 4000000 in
theorem compact64_any (b cap n B : Nat) (G : Int → Value) (X : Int → Int) (w0 w : World) (H : List (Option Blk)) (hn : 1 ≤ n ∧ n ≤ 1000) (hc : n ≤ cap) (hG : ∀ i : Int, 0 ≤ i → i < n → G i = iv (X i)) (hX : ∀ a b : Int, 0 ≤ a → a < b → b < n → X a ≤ X b) (hO : Own B w0 w (some (vch b 2 cap G) :: H)) :
  Calls Tryz.prog 68 #[.slice (some ⟨b, 0, none⟩) n cap] w fun e w' => ∃ (m : Nat) (G' : Int → Value) (Y : Int → Int), e = .returned (.slice (some ⟨b, 0, none⟩) m cap) ∧ m ≤ n ∧ (∀ i : Int, 0 ≤ i → i < m → G' i = iv (Y i)) ∧ Cpt X n m Y ∧ Own B w0 w' (some (vch b 2 cap G') :: H) := by
 have h1 : Cpt X 1 1 X := ⟨⟨fun a b a0 ab b1 => by omega⟩, fun v => Iff.rfl, Nat.le_refl _, rfl⟩
 refine calls_of_run (F := [(0, _)]) Tryz.func68 rfl Tryz.ntmps68 rfl rfl <| run_seq <| run_region <| rl_v rfl rfl rfl (ov_assign rfl rfl) <| rl_nil <| run_seq <| run_seq <| run_region <| rl_v rfl rfl rfl (ov_move rfl rfl) <| rl_v rfl rfl rfl (ov_len rfl Tryz.underlying22 rfl) <| rl_v rfl rfl rfl (ov_lss rfl rfl rfl) <| rl_nil ?_
 first | refine run_cond_dec rfl (fun c1 => ?_) (fun c1 => ?_) | refine run_cond rfl (fun c1 => ?_) (fun c1 => ?_)
 ·have hn1 : n = 1 := by omega
  subst hn1
  refine run_seq <| run_region <| rl_v rfl rfl rfl (ov_move rfl rfl) <| rl_v rfl rfl rfl (ov_assign rfl rfl) <| rl_nil <| run_ret Tryz.func68 (res1 Tryz.results68 rfl) ?_
  exact ⟨1, G, X, rfl, Nat.le_refl _, hG, h1, hO⟩
 ·refine run_skip <| run_seq <| run_seq <| run_region <| rl_v rfl rfl rfl (ov_assign rfl rfl) <| rl_nil <| run_block <| Run.keep [0, 3] (F' := [(0, _), (3, _)]) rfl <| run_loop1 (fun (k : Nat) => [(3, .int .i64 (k : Int))]) [0] (fun (k : Nat) (w1 : World) => (1 ≤ k ∧ k ≤ n) ∧ Cpt X k k X ∧ Own B w0 w1 (some (vch b 2 cap G) :: H)) (fun (k : Nat) => n - k) (1) ?_ (And.intro (by exact slot_int rfl (by first | omega)) (And.intro rfl trivial)) ?_
  ·exact ⟨by omega, h1, hO⟩
  intro k w1 hIw1 ih2
  obtain ⟨hk, hC, hO1⟩ := hIw1
  show Run _ _ _ _ [(3, _), (0, _)] _ _
  refine run_seq <| run_seq <| run_region <| rl_v rfl rfl rfl (ov_move rfl rfl) <| rl_v rfl rfl rfl (ov_move rfl rfl) <| rl_v rfl rfl rfl (ov_len rfl Tryz.underlying22 rfl) <| rl_v rfl rfl rfl (ov_lss rfl rfl rfl) <| rl_nil ?_
  first | refine run_cond_dec rfl (fun c2 => ?_) (fun c2 => ?_) | refine run_cond rfl (fun c2 => ?_) (fun c2 => ?_)
  ·have hle := hX ((k : Int) - 1) k (by omega) (by omega) c2
   refine run_skip <| run_seq <| run_block <| run_seq <| run_quiet mixed (by kernel_rfl) ?_
   refine rq_v rfl rfl rfl (fun _ => ov_move rfl rfl) ?_
   refine rq_v rfl rfl rfl (fun _ => ov_move rfl rfl) ?_
   refine rq_v rfl rfl rfl (fun _ => ov_index1 rfl Tryz.underlying22 (by kernel_rfl) rfl rfl ⟨by omega, by omega⟩ rfl) ?_
   refine rq_v rfl rfl rfl (fun _ => ov_load rfl Tryz.underlying2 rfl rfl (by show World.cell? w1 _ = _; first | exact (cellAt hO1 (j := k) (by omega) (by omega)).trans (congrArg some (hG k (by omega) c2)))) ?_
   refine rq_v rfl rfl rfl (fun _ => ov_move rfl rfl) ?_
   refine rq_v rfl rfl rfl (fun _ => ov_move rfl rfl) ?_
   refine rq_v rfl rfl rfl (fun _ => ov_sub rfl rfl rfl (by omega)) ?_
   refine rq_v rfl rfl rfl (fun _ => ov_index1 rfl Tryz.underlying22 (by kernel_rfl) rfl rfl ⟨by omega, by omega⟩ rfl) ?_
   refine rq_v rfl rfl rfl (fun _ => ov_load rfl Tryz.underlying2 rfl rfl (by show World.cell? w1 _ = _; first | exact (cellAt hO1 (j := k - 1) (by omega) (by omega)).trans (congrArg some ((hG ((k - 1 : Nat) : Int) (by omega) (by omega)).trans (congrArg (fun z => iv (X z)) (show ((k - 1 : Nat) : Int) = (k : Int) - 1 by omega)))))) ?_
   refine rq_v rfl rfl rfl (fun _ => ov_eql rfl rfl rfl) ?_
   refine rq_nil (fun n3 => ?_)
   have hO5 := hO1.drewN n3
   generalize World.drewN w1 n3 = w4 at hO5 ⊢
   first | refine run_cond_dec rfl (fun c3 => ?_) (fun c3 => ?_) | refine run_cond rfl (fun c3 => ?_) (fun c3 => ?_)
   ·have hC1 : Cpt X ((k : Int) + 1) k X := hC.eq (by omega) c3
    refine run_seq <| run_region <| rl_v rfl rfl rfl (ov_move rfl rfl) <| rl_v rfl rfl rfl (ov_move rfl rfl) <| rl_v rfl rfl rfl (ov_sliceL rfl Tryz.underlying22 (by kernel_rfl) (s := 1) rfl rfl ⟨by omega, by omega⟩ (by omega) rfl) ?_
    refine rl_v rfl rfl rfl (ov_assign rfl rfl) <| rl_nil <| run_seq <| run_seq <| run_region <| rl_v rfl rfl rfl (ov_assign rfl rfl) <| rl_nil <| run_block <| Run.keep [0, 3, 4, 5] (F' := [(0, _), (3, _), (4, _), (5, _)]) rfl <| run_loop2 (fun (k2 : Nat) (k3 : Nat) => [(5, .int .i64 (k2 : Int)), (3, .int .i64 (k3 : Int))]) [0, 4] (fun (k2 : Nat) (k3 : Nat) (w6 : World) => (1 ≤ k2 ∧ k2 ≤ n - k) ∧ (1 ≤ k3 ∧ k3 + 1 ≤ k + k2) ∧ ∃ (G2 : Int → Value) (Y : Int → Int), Cpt X ((k : Int) + k2) k3 Y ∧ (∀ i : Int, 0 ≤ i → i < k3 → G2 i = iv (Y i)) ∧ (∀ i : Int, (k3 : Int) ≤ i → i < n → G2 i = iv (X i)) ∧ Own B w0 w6 (some (vch b 2 cap G2) :: H)) (fun (k2 : Nat) (k3 : Nat) => n - k - k2) (1) (k) ?_ (And.intro (by exact slot_int rfl (by first | omega)) (And.intro (by exact slot_int rfl (by first | omega)) (And.intro rfl (And.intro rfl trivial)))) ?_
    ·exact ⟨by omega, by omega, G, X, hC1, fun i i0 i1 => hG i i0 (by omega), fun i i0 i1 => hG i (by omega) i1, hO5⟩
    intro k2 k3 w6 hIw6 ih7
    obtain ⟨hk2, hk3, G2, Y, hC2, hG2, hG3, hO2⟩ := hIw6
    show Run _ _ _ _ [(5, _), (3, _), (0, _), (4, _)] _ _
    refine run_seq <| run_seq <| run_region <| rl_v rfl rfl rfl (ov_move rfl rfl) <| rl_v rfl rfl rfl (ov_move rfl rfl) <| rl_v rfl rfl rfl (ov_len rfl Tryz.underlying22 rfl) <| rl_v rfl rfl rfl (ov_lss rfl rfl rfl) <| rl_nil ?_
    first | refine run_cond_dec rfl (fun c4 => ?_) (fun c4 => ?_) | refine run_cond rfl (fun c4 => ?_) (fun c4 => ?_)
    ·have c5 : (k : Int) + k2 < n := by omega
     have hle2 := hX ((k : Int) + k2 - 1) ((k : Int) + k2) (by omega) (by omega) c5
     have hg1 : G2 ((k + k2 : Nat) : Int) = iv (X ((k : Int) + k2)) := (hG3 _ (by omega) (by omega)).trans (congrArg (fun z => iv (X z)) (by omega))
     have hg2 : G2 ((k + k2 - 1 : Nat) : Int) = iv (X ((k : Int) + k2 - 1)) := (hG3 _ (by omega) (by omega)).trans (congrArg (fun z => iv (X z)) (by omega))
     refine run_skip <| run_seq <| run_block <| run_seq <| run_quiet mixed (by kernel_rfl) ?_
     refine rq_v rfl rfl rfl (fun _ => ov_move rfl rfl) ?_
     refine rq_v rfl rfl rfl (fun _ => ov_move rfl rfl) ?_
     refine rq_v rfl rfl rfl (fun _ => ov_index1 rfl Tryz.underlying22 (by kernel_rfl) rfl rfl ⟨by omega, by omega⟩ rfl) ?_
     refine rq_v rfl rfl rfl (fun _ => ov_load rfl Tryz.underlying2 rfl rfl (by show World.cell? w6 _ = _; first | exact (cellAt hO2 (j := k + k2) (by omega) (by omega)).trans (congrArg some hg1))) ?_
     refine rq_v rfl rfl rfl (fun _ => ov_move rfl rfl) ?_
     refine rq_v rfl rfl rfl (fun _ => ov_move rfl rfl) ?_
     refine rq_v rfl rfl rfl (fun _ => ov_sub rfl rfl rfl (by omega)) ?_
     refine rq_v rfl rfl rfl (fun _ => ov_index1 rfl Tryz.underlying22 (by kernel_rfl) rfl rfl ⟨by omega, by omega⟩ rfl) ?_
     refine rq_v rfl rfl rfl (fun _ => ov_load rfl Tryz.underlying2 rfl rfl (by show World.cell? w6 _ = _; first | exact (cellAt hO2 (j := k + k2 - 1) (by omega) (by omega)).trans (congrArg some hg2))) ?_
     refine rq_v rfl rfl rfl (fun _ => ov_neq rfl rfl rfl) ?_
     refine rq_nil (fun n8 => ?_)
     have hO10 := hO2.drewN n8
     generalize World.drewN w6 n8 = w9 at hO10 ⊢
     first | refine run_cond_dec rfl (fun c6 => ?_) (fun c6 => ?_) | refine run_cond rfl (fun c6 => ?_) (fun c6 => ?_)
     ·have hlt : X ((k : Int) + k2 - 1) < X ((k : Int) + k2) := by omega
      refine run_seq <| run_region <| rl_v rfl rfl rfl (ov_move rfl rfl) <| rl_v rfl rfl rfl (ov_move rfl rfl) <| rl_v rfl rfl rfl (ov_move rfl rfl) <| rl_v rfl rfl rfl (ov_move rfl rfl) <| rl_v rfl rfl rfl (ov_index1 rfl Tryz.underlying22 (by kernel_rfl) rfl rfl ⟨by omega, by omega⟩ rfl) ?_
      refine rl_v rfl rfl rfl (ov_load rfl Tryz.underlying2 rfl rfl (by exact (cellAt hO10 (j := k + k2) (by omega) (by omega)).trans (congrArg some hg1))) ?_
      refine rl_v rfl rfl rfl (ov_index1 rfl Tryz.underlying22 (by kernel_rfl) rfl rfl ⟨by omega, by omega⟩ rfl) ?_
      refine rl_ow rfl (ow_store rfl rfl (by kernel_rfl) hO10 0 rfl rfl ⟨by omega, by omega⟩ rfl rfl) ?_
      rintro _ w11 ⟨rfl, hO12, hs13⟩
      refine rl_nil <| run_region <| rl_v rfl rfl rfl (ov_move rfl rfl) <| rl_v rfl rfl rfl (ov_add rfl rfl rfl (by omega)) ?_
      refine rl_v rfl rfl rfl (ov_assign rfl rfl) <| rl_nil <| run_inBlock <| run_region <| rl_v rfl rfl rfl (ov_move rfl rfl) <| rl_v rfl rfl rfl (ov_add rfl rfl rfl (by omega)) ?_
      refine rl_v rfl rfl rfl (ov_assign rfl rfl) <| rl_nil ?_
      refine Run.use (ih7 (k2 + 1) (k3 + 1) _ ?_ ?_) (And.intro (by exact slot_int rfl (by first | omega)) (And.intro (by exact slot_int rfl (by first | omega)) (And.intro rfl (And.intro rfl trivial))))
      ·first | omega | (dsimp only; omega)
      ·exact ⟨by omega, by omega, _, _, hC2.ne (by omega) hlt, fun i i0 i1 => by unfold upd; split; rfl; exact hG2 i i0 (by omega), fun i i0 i1 => by rw [upd_ne _ _ (by omega)]; exact hG3 i (by omega) i1, hO12⟩
     ·have heq : X ((k : Int) + k2) = X ((k : Int) + k2 - 1) := by omega
      refine run_skip <| run_inBlock <| run_region <| rl_v rfl rfl rfl (ov_move rfl rfl) <| rl_v rfl rfl rfl (ov_add rfl rfl rfl (by omega)) ?_
      refine rl_v rfl rfl rfl (ov_assign rfl rfl) <| rl_nil ?_
      refine Run.use (ih7 (k2 + 1) (k3) _ ?_ ?_) (And.intro (by exact slot_int rfl (by first | omega)) (And.intro (by exact slot_int rfl (by first | omega)) (And.intro rfl (And.intro rfl trivial))))
      ·first | omega | (dsimp only; omega)
      ·exact ⟨by omega, by omega, G2, Y, hC2.eq (by omega) heq, hG2, hG3, hO10⟩
    ·have hkn : (k : Int) + k2 = n := by omega
     rw [hkn] at hC2
     refine run_exit rfl <| run_seq <| run_region <| rl_v rfl rfl rfl (ov_move rfl rfl) <| rl_v rfl rfl rfl (ov_move rfl rfl) <| rl_v rfl rfl rfl (ov_sliceL rfl Tryz.underlying22 (by kernel_rfl) (s := 1) rfl rfl ⟨by omega, by omega⟩ (by omega) rfl) ?_
     refine rl_ow rfl (ow_clear rfl rfl Tryz.underlying22 info_2 (by rfl) rfl (by decide) hO2 0 rfl rfl rfl (show 0 + (k3 : Int).toNat * 1 + (n - (k3 : Int).toNat) * 1 ≤ cap by omega)) ?_
     rintro _ w14 ⟨rfl, f9, hf9, hO15, hs16⟩
     have hO9 : Own B w0 w14 (some (vch b 2 cap (fun i => f9 i.toNat)) :: H) := hO15
     have hlr := hC2.last
     refine rl_nil <| run_seq <| run_region <| rl_v rfl rfl rfl (ov_move rfl rfl) <| rl_v rfl rfl rfl (ov_move rfl rfl) <| rl_v rfl rfl rfl (ov_sliceH (k3) (s := 1) rfl Tryz.underlying22 (by kernel_rfl) rfl rfl (by rfl) (by omega)) ?_
     refine rl_v rfl rfl rfl (ov_assign rfl rfl) <| rl_nil <| run_ret Tryz.func68 (res1 Tryz.results68 rfl) ?_
     exact ⟨k3, _, Y, rfl, by omega, fun i i0 i1 => (hf9 i.toNat (by omega)).trans (by show G2 ((i.toNat : Nat) : Int) = _; rw [Int.toNat_of_nonneg i0]; exact hG2 i i0 i1), hC2, hO9⟩
   ·have hlt : X ((k : Int) - 1) < X k := by omega
    have hC3 : Cpt X ((k : Int) + 1) (k + 1) X := by
     have h9 := hC.ne (by omega) hlt
     refine ⟨⟨fun a b a0 ab b1 => ?_⟩, fun v => Iff.rfl, by omega, congrArg X (by omega)⟩
     by_cases c : b = k
     ·by_cases d : a = (k : Int) - 1
      ·rw [c, d]; exact hlt
      ·have := hC.r.inc a ((k : Int) - 1) a0 (by omega) (by omega)
       rw [c]; omega
     ·exact hC.r.inc a b a0 ab (by omega)
    refine run_skip <| run_inBlock <| run_region <| rl_v rfl rfl rfl (ov_move rfl rfl) <| rl_v rfl rfl rfl (ov_add rfl rfl rfl (by omega)) ?_
    refine rl_v rfl rfl rfl (ov_assign rfl rfl) <| rl_nil ?_
    refine Run.use (ih2 (k + 1) _ ?_ ?_) (And.intro (by exact slot_int rfl (by first | omega)) (And.intro rfl trivial))
    ·first | omega | (dsimp only; omega)
    ·exact ⟨by omega, hC3, hO5⟩
  ·have hkn : k = n := by omega
   rw [hkn] at hC
   refine run_exit rfl <| run_seq <| run_region <| rl_v rfl rfl rfl (ov_move rfl rfl) <| rl_v rfl rfl rfl (ov_assign rfl rfl) <| rl_nil <| run_ret Tryz.func68 (res1 Tryz.results68 rfl) ?_
   exact ⟨n, G, X, rfl, Nat.le_refl _, hG, hC, hO1⟩
end Go.Proofs.YtbcjfjldmfljgaaGreat
