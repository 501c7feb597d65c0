import Derived.Test.YtbcjfjldmfljgaaGreatHeld
import Derived.Test.YtbcjfjldmfljgaaGreatFdA
import Derived.Test.YtbcjfjldmfljgaaGreatPrw
import Derived.Test.YtbcjfjldmfljgaaGreatRul
import Derived.Laws.Externs
import Derived.Lib.Mul64
import Derived.Laws.Bits64b
set_option maxRecDepth 100000
namespace Go.Proofs.YtbcjfjldmfljgaaGreat
open Go.RowKit Go.Proofs
theorem rl_gow {P : Program} {f N : Nat} {ops : Array Oper} {o : Oper} {rest : List Oper} {k : List Item} {F : Fr} {w : World} {R : Ending → World → Prop} {j g : Nat} {b : Bool} {Post : Fr → World → Prop} (hg : o.guard = some (j, b)) (hj : (ops[j]?).bind (·.dst) = some g) (hb : Fr.get F g = some (.bool b)) (hw : OpW P N o F w Post)
  (h : ∀ F' w', Post F' w' → RL P f N ops rest k F' w' R) : RL P f N ops (o :: rest) k F w R := by
 intro a ha
 refine wpList_step fun K hK => ?_
 have hw1 : Region.wanted o (yielded ops a.tmps) = true := by simp [Region.wanted, hg, yielded_of ha hj hb]
 rw [if_pos hw1]
 exact hw a ha K _ fun F' a' w' hp ha' => hK _ _ (h F' w' hp a' ha')
end Go.Proofs.YtbcjfjldmfljgaaGreat
set_option maxRecDepth 100000
namespace Go.Proofs.YtbcjfjldmfljgaaGreat
open Go.RowKit Go.Proofs
theorem Own.nones {B : Nat} {w0 w : World} {H : List (Option Blk)} (h : Own B w0 w H) : ∀ n : Nat, Own B w0 w (List.replicate n none ++ H)
 | 0 => h
 | n + 1 => (h.nones n).nil_cons
theorem OTab.congr2 {v : Value} {T1 T2 : TypeId} {n : Nat} {L L' : Int → Nat} {F G : Int → Int → Value} {H : List (Option Blk)} (h : OTab v T1 T2 n L F H) (hL : ∀ r : Int, 0 ≤ r → r < n → L r = L' r) (e : ∀ r c : Int, 0 ≤ r → r < n → 0 ≤ c → c < L r → F r c = G r c) : OTab v T1 T2 n L' G H := by
 obtain ⟨c, rv, ch, h1, h2, h3⟩ := h
 exact ⟨c, rv, ch, h1, h2, fun r hr => by rw [← hL r (by omega) (by omega)]; exact (h3 r hr).congr (fun i h0 hi => e r i (by omega) (by omega) h0 hi)⟩
theorem OTab.nils (b : Nat) (T1 T2 : TypeId) (n : Nat) (G : Int → Value) (F : Int → Int → Value) (hn : n ≤ maxLen) (hG : ∀ i : Int, 0 ≤ i → i < n → G i = .slice none 0 0) : OTab (.slice (some ⟨b, 0, none⟩) n n) T1 T2 n (fun _ => 0) F (some (vch b T1 n G) :: (List.range n).map fun _ => none) :=
 ⟨_, fun _ => .slice none 0 0, fun _ => none, rfl, IRow.ofV (Nat.le_refl _) hn hG, fun _ _ => IRow.nil _ _⟩
end Go.Proofs.YtbcjfjldmfljgaaGreat
set_option maxRecDepth 100000
namespace Go.Proofs.YtbcjfjldmfljgaaGreat
open Go.RowKit Go.Proofs
section
variable {P : Program} {N : Nat} {o : Oper} {F : Fr} {w : World} {T U : TypeId} {x y : Operand}
theorem nv {k : IntKind} {z z' : Int} (h : OpV P N o F w (.int k z)) (e : z = z') : OpV P N o F w (.int k z') := e ▸ h
theorem wM (a : Nat) : IntKind.u64.wrap (a : Int) = ((a % 18446744073709551616 : Nat) : Int) := by rw [IntKind.wrap_u64]; omega
theorem ov_shlU {a s : Nat} {k : IntKind} (ho : o.op = .binOp .shl T x y U) (hx : Fr.ev F x = some (.int .u64 (a : Int))) (hy : Fr.ev F y = some (.int k (s : Int))) (hs : s ≤ 64) : OpV P N o F w (.int .u64 ((a * 2 ^ s % 18446744073709551616 : Nat) : Int)) := by
 refine ov_bin ho hx hy ?_
 have h := shift_shl_u64 k (a : Int) (s : Int) (by omega) (by omega)
 rw [binOp_shl, h, Int.toNat_natCast, show ((a : Int) * 2 ^ s) = ((a * 2 ^ s : Nat) : Int) by rw [Int.natCast_mul, Int.natCast_pow]; rfl, wM]
 rfl
theorem ov_shrU {a s : Nat} {k : IntKind} (ho : o.op = .binOp .shr T x y U) (hx : Fr.ev F x = some (.int .u64 (a : Int))) (hy : Fr.ev F y = some (.int k (s : Int))) (hs : s ≤ 64) : OpV P N o F w (.int .u64 ((a / 2 ^ s : Nat) : Int)) := by
 refine ov_bin ho hx hy ?_
 have h := shift_shr_u64 k (a : Int) (s : Int) (by omega) (by omega)
 rw [binOp_shr, h, Int.toNat_natCast, show ((a : Int) / 2 ^ s) = ((a / 2 ^ s : Nat) : Int) by rw [Int.natCast_ediv, Int.natCast_pow]; rfl]
 rfl
theorem ov_shr32N {a : Nat} {k : IntKind} (ho : o.op = .binOp .shr T x y U) (hx : Fr.ev F x = some (.int .u64 (a : Int))) (hy : Fr.ev F y = some (.int k 32)) : OpV P N o F w (.int .u64 ((a / 4294967296 : Nat) : Int)) :=
 nv (ov_shr32 ho hx hy) (by omega)
end
section
variable {N : Nat} {o : Oper} {F : Fr} {w : World}
def len8 (x : Nat) : Nat := if x = 0 then 0 else if x < 2 then 1 else if x < 4 then 2 else if x < 8 then 3 else if x < 16 then 4 else if x < 32 then 5 else if x < 64 then 6 else if x < 128 then 7 else 8
theorem ov_len8 {o : Oper} {x : Operand} {T : TypeId} {s : ByteArray} {a : Nat} (ho : o.op = .index T (.const (.string s)) x) (hT : Tryz.prog.underlying T = some .string) (hs : (s.data.toList.map fun c => c.toNat) = (List.range 256).map len8) (hx : Fr.ev F x = some (.int .u8 (a : Int))) (ha : a < 256) :
  OpV Tryz.prog N o F w (.int .u8 ((len8 a : Nat) : Int)) := by
 intro st hst
 have hl : s.data.toList.length = 256 := by have := congrArg List.length hs; rw [List.length_map, List.length_map, List.length_range] at this; exact this
 have hsz : s.size = 256 := by rw [← hl]; rfl
 have h := run_index_string (P := Tryz.prog) (w := w) T s .u8 (a : Int) hT
 have e : (s[a]'(by omega)).toNat = len8 a := by
  have h1 := congrArg (fun l => l[a]?) hs
  have h2 : s.data.toList[a]? = some (s[a]'(by omega)) := by rw [Array.getElem?_toList]; exact Array.getElem?_eq_getElem (by rw [← Array.length_toList]; omega)
  simp only [List.getElem?_map, h2, List.getElem?_range ha, Option.map_some, Option.some.injEq] at h1
  exact h1
 rw [dif_pos ⟨by omega, by omega⟩] at h
 have e2 : (s[(a : Int).toNat]'(by omega)).toNat = len8 a := e
 rw [e2] at h
 unfold execOp
 have hf : Fr.ev F (.const (.string s)) = some (.string s) := rfl
 simp [ho, hst.ev hf, hst.ev hx, h, Result.andThen]
end
theorem len8_ok (x : Nat) (h : x < 256) : x < 2 ^ len8 x ∧ (0 < x → 2 ^ (len8 x - 1) ≤ x) ∧ len8 x ≤ 8 ∧ (0 < x → 1 ≤ len8 x) := by
 unfold len8
 repeat' split
 all_goals omega
theorem len_fin {x n3 x3 : Nat} (h : x / 2 ^ n3 = x3) (h0 : 0 < x3) (h2 : x3 < 256) : 2 ^ (n3 + len8 x3 - 1) ≤ x ∧ x < 2 ^ (n3 + len8 x3) := by
 obtain ⟨a1, a2, _, a4⟩ := len8_ok x3 h2
 have a2 := a2 h0
 have a4 := a4 h0
 have hp : 0 < 2 ^ n3 := Nat.two_pow_pos n3
 constructor
 ·rw [show n3 + len8 x3 - 1 = (len8 x3 - 1) + n3 by omega, Nat.pow_add]
  refine Nat.le_trans (Nat.mul_le_mul_right _ a2) ?_
  rw [← h]
  exact Nat.div_mul_le_self x _
 ·rw [Nat.add_comm, Nat.pow_add]
  refine Nat.lt_of_lt_of_le ((Nat.div_lt_iff_lt_mul hp).1 (show x / 2 ^ n3 < x3 + 1 by omega)) ?_
  exact Nat.mul_le_mul_right _ a1
theorem div_sh {x n x1 k : Nat} (h : x / 2 ^ n = x1) : x / 2 ^ (n + k) = x1 / 2 ^ k := by rw [← h, Nat.div_div_eq_div_mul, Nat.pow_add]
theorem len64_any (x : Nat) (w : World) (hx : 0 < x) (hx2 : x < 18446744073709551616) :
  Calls Tryz.prog 66 #[.int .u64 (x : Int)] w fun e w' => ∃ n : Nat, e = .returned (iv n) ∧ w' = w ∧ 1 ≤ n ∧ n ≤ 64 ∧ 2 ^ (n - 1) ≤ x ∧ x < 2 ^ n := by
 refine calls_of_run (F := [(0, _)]) Tryz.func66 rfl Tryz.ntmps66 rfl rfl ?_
 have hO0 := Own.init w
 refine run_seq <| run_region <| rl_v rfl rfl rfl (ov_assign rfl rfl) <| rl_nil <| run_seq <| run_seq <| run_region <| rl_v rfl rfl rfl (ov_move rfl rfl) <| rl_v rfl rfl rfl (ov_geq rfl rfl rfl) <| rl_nil <| Run.keep [0, 2, 4] (F' := [(0, _), (2, _), (4, _)]) rfl <| run_join2 (fun (x1 : Nat) (n1 : Nat) => [(0, .int .u64 (x1 : Int)), (2, .int .i64 n1)]) [] (fun (x1 : Nat) (n1 : Nat) (w1 : World) => w1 = w ∧ 0 < x1 ∧ x1 < 4294967296 ∧ (n1 = 0 ∨ n1 = 32) ∧ x / 2 ^ n1 = x1) (fun hk2 => ?_) ?_
 ·first | refine run_cond_dec rfl (fun c1 => ?_) (fun c1 => ?_) | refine run_cond rfl (fun c1 => ?_) (fun c1 => ?_)
  ·refine run_seq <| run_region <| rl_v rfl rfl rfl (ov_move rfl rfl) <| rl_v rfl rfl rfl (ov_shr32N rfl rfl rfl) <| rl_v rfl rfl rfl (ov_assign rfl rfl) <| rl_nil <| run_region <| rl_v rfl rfl rfl (ov_assign rfl rfl) <| rl_nil ?_
   refine Run.use (hk2 (x / 4294967296) (32) _ ?_) (And.intro (by exact slot_int rfl (by first | omega)) (And.intro (by exact slot_int rfl (by first | omega)) trivial))
   exact ⟨rfl, by omega, by omega, .inr rfl, rfl⟩
  ·refine run_skip ?_
   refine Run.use (hk2 (x) (0) _ ?_) (And.intro (by exact slot_int rfl (by first | omega)) (And.intro (by exact slot_int rfl (by first | omega)) trivial))
   exact ⟨rfl, hx, by omega, .inl rfl, by simp⟩
 ·intro x1 n1 w1 hJw1
  obtain ⟨hw, h1, h2, h3, h4⟩ := hJw1
  show Run _ _ _ _ [(0, _), (2, _)] _ _
  refine run_seq <| run_seq <| run_region <| rl_v rfl rfl rfl (ov_move rfl rfl) <| rl_v rfl rfl rfl (ov_geq rfl rfl rfl) <| rl_nil <| Run.keep [0, 2, 8] (F' := [(0, _), (2, _), (8, _)]) rfl <| run_join2 (fun (x2 : Nat) (n2 : Nat) => [(0, .int .u64 (x2 : Int)), (2, .int .i64 n2)]) [] (fun (x2 : Nat) (n2 : Nat) (w3 : World) => w3 = w ∧ 0 < x2 ∧ x2 < 65536 ∧ n2 ≤ 48 ∧ x / 2 ^ n2 = x2) (fun hk4 => ?_) ?_
  ·first | refine run_cond_dec rfl (fun c2 => ?_) (fun c2 => ?_) | refine run_cond rfl (fun c2 => ?_) (fun c2 => ?_)
   ·refine run_seq <| run_region <| rl_v rfl rfl rfl (ov_move rfl rfl) <| rl_v rfl rfl rfl (ov_shrU (s := 16) rfl rfl rfl (by omega)) ?_
    refine rl_v rfl rfl rfl (ov_assign rfl rfl) <| rl_nil <| run_region <| rl_v rfl rfl rfl (ov_move rfl rfl) <| rl_v rfl rfl rfl (ov_add rfl rfl rfl (by omega)) ?_
    refine rl_v rfl rfl rfl (ov_assign rfl rfl) <| rl_nil ?_
    refine Run.use (hk4 (x1 / 2 ^ 16) (n1 + 16) _ ?_) (And.intro (by exact slot_int rfl (by first | omega)) (And.intro (by exact slot_int rfl (by first | omega)) trivial))
    exact ⟨hw, by omega, by omega, by omega, div_sh h4⟩
   ·refine run_skip ?_
    refine Run.use (hk4 (x1) (n1) _ ?_) (And.intro (by exact slot_int rfl (by first | omega)) (And.intro (by exact slot_int rfl (by first | omega)) trivial))
    exact ⟨hw, h1, by omega, by omega, h4⟩
  ·intro x2 n2 w3 hJw3
   obtain ⟨hw, g1, g2, g3, g4⟩ := hJw3
   show Run _ _ _ _ [(0, _), (2, _)] _ _
   refine run_seq <| run_seq <| run_region <| rl_v rfl rfl rfl (ov_move rfl rfl) <| rl_v rfl rfl rfl (ov_geq rfl rfl rfl) <| rl_nil <| Run.keep [0, 2, 14] (F' := [(0, _), (2, _), (14, _)]) rfl <| run_join2 (fun (x3 : Nat) (n3 : Nat) => [(0, .int .u64 (x3 : Int)), (2, .int .i64 n3)]) [] (fun (x3 : Nat) (n3 : Nat) (w5 : World) => w5 = w ∧ 0 < x3 ∧ x3 < 256 ∧ n3 ≤ 56 ∧ x / 2 ^ n3 = x3) (fun hk6 => ?_) ?_
   ·first | refine run_cond_dec rfl (fun c3 => ?_) (fun c3 => ?_) | refine run_cond rfl (fun c3 => ?_) (fun c3 => ?_)
    ·refine run_seq <| run_region <| rl_v rfl rfl rfl (ov_move rfl rfl) <| rl_v rfl rfl rfl (ov_shrU (s := 8) rfl rfl rfl (by omega)) ?_
     refine rl_v rfl rfl rfl (ov_assign rfl rfl) <| rl_nil <| run_region <| rl_v rfl rfl rfl (ov_move rfl rfl) <| rl_v rfl rfl rfl (ov_add rfl rfl rfl (by omega)) ?_
     refine rl_v rfl rfl rfl (ov_assign rfl rfl) <| rl_nil ?_
     refine Run.use (hk6 (x2 / 2 ^ 8) (n2 + 8) _ ?_) (And.intro (by exact slot_int rfl (by first | omega)) (And.intro (by exact slot_int rfl (by first | omega)) trivial))
     exact ⟨hw, by omega, by omega, by omega, div_sh g4⟩
    ·refine run_skip ?_
     refine Run.use (hk6 (x2) (n2) _ ?_) (And.intro (by exact slot_int rfl (by first | omega)) (And.intro (by exact slot_int rfl (by first | omega)) trivial))
     exact ⟨hw, g1, by omega, by omega, g4⟩
   ·intro x3 n3 w5 hJw5
    obtain ⟨hw, k1, k2, k3, k4⟩ := hJw5
    show Run _ _ _ _ [(0, _), (2, _)] _ _
    have hf := len_fin k4 k1 k2
    have hk := len8_ok x3 k2
    have hk4 := hk.2.2.2 k1
    refine run_seq <| run_region <| rl_v rfl rfl rfl (ov_move rfl rfl) <| rl_v rfl rfl rfl (ov_move rfl rfl) <| rl_v rfl rfl rfl (nv (ov_conv rfl Tryz.underlying42 Tryz.underlying5 rfl) (show IntKind.u8.wrap (x3 : Int) = (x3 : Int) from IntWalk.u8_in _ (by omega))) ?_
    refine rl_v rfl rfl rfl (ov_len8 rfl Tryz.underlying9 (by kernel_rfl) rfl k2) ?_
    refine rl_v rfl rfl rfl (nv (ov_conv rfl Tryz.underlying5 Tryz.underlying3 rfl) (show IntKind.i64.wrap ((len8 x3 : Nat) : Int) = ((len8 x3 : Nat) : Int) from IntWalk.i64_in _ (by omega))) ?_
    refine rl_v rfl rfl rfl (ov_add rfl rfl rfl (by omega)) ?_
    refine rl_v rfl rfl rfl (ov_assign rfl rfl) <| rl_nil <| run_ret Tryz.func66 (res1 Tryz.results66 rfl) ?_
    exact ⟨n3 + len8 x3, by rw [Int.natCast_add], hw, by omega, by omega, hf.1, hf.2⟩
end Go.Proofs.YtbcjfjldmfljgaaGreat
