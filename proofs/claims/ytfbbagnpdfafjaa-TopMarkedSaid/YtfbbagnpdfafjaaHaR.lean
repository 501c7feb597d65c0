import Derived.Test.YtfbbagnpdfafjaaMaps
import Derived.Test.YtfbbagnpdfafjaaRul
import Derived.Test.YtfbbagnpdfafjaaHaQ
set_option maxRecDepth 100000
namespace Go.Proofs.Ytfbbagnpdfafjaa
open Go.RowKit Go.Proofs
def PRow (N : List (Option Blk)) (v : Value) (s n : Nat) (G : Int → List Value) : Prop :=
 ∃ ao cap, v = .slice ao n cap ∧ n ≤ cap ∧ (0 < n → ∃ b t m f, ao = some ⟨b, 0, none⟩ ∧ some (⟨b, t, m, f, none⟩ : Blk) ∈ N ∧ n * s ≤ m ∧ ∀ j, j < n * s → f j = (G ((j / s : Nat) : Int)).getD (j % s) undef)
theorem PRow.mono {N N' : List (Option Blk)} {v : Value} {s n : Nat} {G : Int → List Value} (h : PRow N v s n G) (hN : ∀ x ∈ N, x ∈ N') : PRow N' v s n G := by
 obtain ⟨ao, cap, h1, h2, h3⟩ := h
 exact ⟨ao, cap, h1, h2, fun hn => let ⟨b, t, m, f, e1, e2, e3⟩ := h3 hn; ⟨b, t, m, f, e1, hN _ e2, e3⟩⟩
theorem PRow.val {N : List (Option Blk)} {v : Value} {s n : Nat} {G : Int → List Value} (h : PRow N v s n G) : ∃ ao cap, v = .slice ao n cap ∧ n ≤ cap := let ⟨ao, cap, h1, h2, _⟩ := h; ⟨ao, cap, h1, h2⟩
theorem PRow.nil (N : List (Option Blk)) (s : Nat) (G : Int → List Value) : PRow N (.slice none 0 0) s 0 G := ⟨none, 0, rfl, Nat.le_refl _, fun h => absurd h (Nat.lt_irrefl _)⟩
theorem PRow.of_row {N : List (Option Blk)} {v : Value} {E : TypeId} {s n : Nat} {G : Int → List Value} {c : Option Blk} (h : SRow v E s n G c) (hc : c ∈ N) : PRow N v s n G := by
 rcases h with ⟨rfl, rfl, _⟩ | ⟨b, cap, g, rfl, h2, h3, rfl, h5⟩
 ·exact PRow.nil _ _ _
 ·exact ⟨_, cap, rfl, h2, fun _ => ⟨b, E, cap * s, g, rfl, hc, Nat.mul_le_mul_right s h2, h5⟩⟩
theorem PRow.congr {N : List (Option Blk)} {v : Value} {s n : Nat} {G G' : Int → List Value} (h : PRow N v s n G) (e : ∀ i : Int, 0 ≤ i → i < n → G i = G' i) : PRow N v s n G' := by
 obtain ⟨ao, cap, h1, h2, h3⟩ := h
 refine ⟨ao, cap, h1, h2, fun hn => ?_⟩
 obtain ⟨b, t, m, f, e1, e2, e3, e4⟩ := h3 hn
 refine ⟨b, t, m, f, e1, e2, e3, fun j hj => ?_⟩
 have : j / s < n := Nat.div_lt_of_lt_mul (by rw [Nat.mul_comm]; exact hj)
 rw [e4 j hj, e _ (Int.natCast_nonneg _) (Int.ofNat_lt.2 this)]
theorem PRow.open {N : List (Option Blk)} {ao : Option Addr} {s n m cap : Nat} {G : Int → List Value} (h : PRow N (.slice ao m cap) s n G) :
  ∃ b, (0 < n → ao = some ⟨b, 0, none⟩) ∧ ∀ {B : Nat} {w0 w : World} {H : List (Option Blk)}, Own B w0 w H → (∀ x ∈ N, x ∈ H) → ∀ i : Int, 0 ≤ i → i < n → ∀ fo, fo < s → w.cell? ⟨b, 0 + i.toNat * s + fo, none⟩ = some ((G i).getD fo undef) := by
 obtain ⟨ao', cap', h1, h2, h3⟩ := h
 cases h1
 rcases Nat.eq_zero_or_pos n with rfl | hn
 ·exact ⟨0, fun h => absurd h (Nat.lt_irrefl _), fun _ _ i h0 h1 => by omega⟩
 ·obtain ⟨b, t, q, f, rfl, e2, e3, e4⟩ := h3 hn
  refine ⟨b, fun _ => rfl, fun hO hN i h0 h1 fo hf => ?_⟩
  have hlt := lt_mul hf (show i.toNat < n by omega)
  have h5 := blkIs.row (hO.at_ _ (hN _ e2)) rfl
  have h6 := h5.cell (i := i.toNat * s + fo) (by show _ < q; omega)
  rw [Nat.zero_add]
  dsimp only at h6
  rw [h6, e4 _ hlt, (divmod_eq hf).1, (divmod_eq hf).2]
  simp only [Int.toNat_of_nonneg h0]
theorem PRow.open1 {N : List (Option Blk)} {ao : Option Addr} {n m cap : Nat} {g : Int → Value} (h : PRow N (.slice ao m cap) 1 n (fun i => [g i])) :
  ∃ b, (0 < n → ao = some ⟨b, 0, none⟩) ∧ ∀ {B : Nat} {w0 w : World} {H : List (Option Blk)}, Own B w0 w H → (∀ x ∈ N, x ∈ H) → IAt w.heap.size w ao n g := by
 have h' := h
 obtain ⟨ao', cap', h1, h2, h3⟩ := h
 cases h1
 obtain ⟨b, hb, hr⟩ := h'.open
 refine ⟨b, hb, fun hO hN => ?_⟩
 rcases Nat.eq_zero_or_pos n with rfl | hn
 ·exact RAt.nil _ _ _ _
 ·obtain ⟨b', t, q, f, e1, e2, e3, e4⟩ := h3 hn
  have e := hb hn
  rw [e1] at e
  cases e
  refine ⟨b, 0, fun _ => e1, fun _ => blkIs.lt (hO.at_ _ (hN _ e2)), fun i hi => ?_⟩
  have := hr hO hN (i : Int) (by omega) (by omega) 0 (by omega)
  simpa using this
theorem mem_app {N R : List (Option Blk)} : ∀ x ∈ N, x ∈ N ++ R := fun _ h => List.mem_append_left _ h
theorem mem_c1 {a : Option Blk} {N H : List (Option Blk)} (h : ∀ x ∈ N, x ∈ H) : ∀ x ∈ N, x ∈ a :: H := fun x hx => List.mem_cons_of_mem _ (h x hx)
theorem mem6 {a b c d e f : Option Blk} {N R : List (Option Blk)} : ∀ x ∈ N, x ∈ a :: b :: c :: d :: e :: f :: (N ++ R) := mem_c1 (mem_c1 (mem_c1 (mem_c1 (mem_c1 (mem_c1 mem_app)))))
theorem mem7 {a b c d e f g : Option Blk} {N R : List (Option Blk)} : ∀ x ∈ N, x ∈ a :: b :: c :: d :: e :: f :: g :: (N ++ R) := mem_c1 mem6
theorem mem8 {a b c d e f g h : Option Blk} {N R : List (Option Blk)} : ∀ x ∈ N, x ∈ a :: b :: c :: d :: e :: f :: g :: h :: (N ++ R) := mem_c1 mem7
theorem PRow.of_irow {N : List (Option Blk)} {v : Value} {E : TypeId} {n : Nat} {G : Int → Value} {c : Option Blk} (h : IRow v E n G c) (hc : c ∈ N) : PRow N v 1 n (fun i => [G i]) := by
 rcases h with ⟨rfl, rfl, _⟩ | ⟨b, cap, g, rfl, h2, h3, rfl, h5⟩
 ·exact PRow.nil _ _ _
 ·exact ⟨_, cap, rfl, h2, fun _ => ⟨b, E, cap * 1, g, rfl, hc, by omega, fun j hj => by rw [h5 j hj]; simp [Nat.mod_one]⟩⟩
theorem perm_front {H : List (Option Blk)} {k : Nat} {x : Option Blk} (hk : H[k]? = some x) : H.Perm (x :: H.eraseIdx k) := by
 induction H generalizing k with
 | nil => simp at hk
 | cons a H ih =>
  cases k with
  | zero => simp at hk; subst hk; exact List.Perm.refl _
  | succ k =>
   simp only [List.getElem?_cons_succ] at hk
   exact ((ih hk).cons a).trans (List.Perm.swap _ _ _)
theorem perm_back {H : List (Option Blk)} {k : Nat} (y : Option Blk) (hk : k < H.length) : (y :: H.eraseIdx k).Perm (H.set k y) := by
 have h := perm_front (H := H.set k y) (k := k) (x := y) (by simp [hk])
 have e : (H.set k y).eraseIdx k = H.eraseIdx k := by
  clear h
  induction H generalizing k with
  | nil => simp
  | cons a H ih =>
   cases k with
   | zero => rfl
   | succ k => simp only [List.set_cons_succ, List.eraseIdx_cons_succ]; rw [ih (by simpa using hk)]
 rw [e] at h
 exact h.symm
theorem perm_mid {α : Type} (x : α) (M T : List α) : (x :: (M ++ T)).Perm (M ++ x :: T) := List.perm_middle.symm
theorem perm_mid2 {α : Type} (x : α) (M N R : List α) : (x :: (M ++ (N ++ R))).Perm (M ++ (N ++ x :: R)) := by
 have h := perm_mid x (M ++ N) R
 simpa [List.append_assoc] using h
theorem IRow.addr {ao : Option Addr} {m cap : Nat} {E : TypeId} {n : Nat} {G : Int → Value} {c : Option Blk} (h : IRow (.slice ao m cap) E n G c) : ∃ b, (0 < n → ao = some ⟨b, 0, none⟩) := by
 rcases h with ⟨_, rfl, _⟩ | ⟨b, cap', g, h1, _⟩
 ·exact ⟨0, fun h => absurd h (Nat.lt_irrefl _)⟩
 ·cases h1; exact ⟨b, fun _ => rfl⟩
theorem ow_storeI1 {N : Nat} {o : Oper} {F : Fr} {w w0 : World} {B : Nat} {H : List (Option Blk)} {T E : TypeId} {p x : Operand} {b n cap : Nat} {G : Int → Value} {c : Option Blk} {ao : Option Addr} {i : Int} {v : Value} (hd : o.dst = none) (ho : o.op = .store T p x) (hi : (Try.prog.info? T).map (·.size) = some 1)
  (hO : Own B w0 w H) (kk : Nat) (hr : IRow (.slice ao n cap) E n G c) (hk : H[kk]? = some c) (hao : 0 < n → ao = some ⟨b, 0, none⟩) (hp : Fr.ev F p = some (.pointer (some ⟨b, 0 + i.toNat, none⟩))) (hb : 0 ≤ i ∧ i < n)
  (hx : Fr.ev F x = some v) (h1 : v.oneCell' = true) :
  OpW Try.prog N o F w (fun F' w' => ∃ c', F' = F ∧ Own B w0 w' (H.set kk c') ∧ IRow (.slice ao n cap) E n (upd G i v) c' ∧ w'.heap.size = w.heap.size) := by
 obtain ⟨b', G', e1, e2, e3, rfl, e5⟩ := hr.asV (by omega)
 have := (hao (by omega)).symm.trans e1
 simp only [Option.some.injEq, Addr.mk.injEq] at this
 obtain rfl := this.1
 refine (ow_store hd ho hi hO kk hk hp ⟨hb.1, by omega⟩ hx h1).mono fun F' w' ⟨q1, q2, q3⟩ => ⟨_, q1, q2, ?_, q3⟩
 rw [e1]
 refine IRow.ofV e2 e3 fun j j0 j1 => ?_
 by_cases e : j = i
 ·subst e; simp
 ·rw [upd_ne _ _ e, upd_ne _ _ e]; exact e5 j j0 j1
end Go.Proofs.Ytfbbagnpdfafjaa
set_option maxRecDepth 100000
namespace Go.Proofs.Ytfbbagnpdfafjaa
open Go.RowKit Go.Proofs
def HM.hasS (X : HM) (s : Int) : Prop := 0 ≤ s ∧ s < X.k
instance (X : HM) (s : Int) : Decidable (X.hasS s) := by unfold HM.hasS; exact inferInstance
end Go.Proofs.Ytfbbagnpdfafjaa
