import Derived.Test.YtbepolognfdkeaaGreatTb9
import Derived.Test.YtbepolognfdkeaaGreatGaF
import Derived.Test.YtbepolognfdkeaaGreatGbA
set_option maxRecDepth 100000
namespace Go.Proofs.YtbepolognfdkeaaGreat
open Go.RowKit Go.Proofs
theorem Own.nones {B : Nat} {w0 w : World} {H : List (Option Blk)} (h : Own B w0 w H) : ∀ n : Nat, Own B w0 w (List.replicate n none ++ H)
 | 0 => h
 | n + 1 => (h.nones n).nil_cons
theorem OTab.congr2 {v : Value} {T1 T2 : TypeId} {n : Nat} {L L' : Int → Nat} {F G : Int → Int → Value} {H : List (Option Blk)} (h : OTab v T1 T2 n L F H) (hL : ∀ r : Int, 0 ≤ r → r < n → L r = L' r) (e : ∀ r c : Int, 0 ≤ r → r < n → 0 ≤ c → c < L r → F r c = G r c) : OTab v T1 T2 n L' G H := by
 obtain ⟨c, rv, ch, h1, h2, h3⟩ := h
 exact ⟨c, rv, ch, h1, h2, fun r hr => by rw [← hL r (by omega) (by omega)]; exact (h3 r hr).congr (fun i h0 hi => e r i (by omega) (by omega) h0 hi)⟩
theorem OTab.nils (b : Nat) (T1 T2 : TypeId) (n : Nat) (G : Int → Value) (F : Int → Int → Value) (hn : n ≤ maxLen) (hG : ∀ i : Int, 0 ≤ i → i < n → G i = .slice none 0 0) : OTab (.slice (some ⟨b, 0, none⟩) n n) T1 T2 n (fun _ => 0) F (some (vch b T1 n G) :: (List.range n).map fun _ => none) :=
 ⟨_, fun _ => .slice none 0 0, fun _ => none, rfl, IRow.ofV (Nat.le_refl _) hn hG, fun _ _ => IRow.nil _ _⟩
theorem tab_take {B : Nat} {w0 w : World} {v : Value} {T1 T2 : TypeId} {n : Nat} {L : Int → Nat} {F : Int → Int → Value} {H R : List (Option Blk)} {a b : Option Blk} (h : OTab v T1 T2 n L F H) (ho : Own B w0 w (a :: b :: (H ++ R))) (i : Nat) (hi : i < n) :
  ∃ (c : Option Blk) (rv : Int → Value) (ch : Nat → Option Blk), IRow v T1 n rv c ∧ (∀ r : Nat, r < n → IRow (rv r) T2 (L r) (F r) (ch r)) ∧ Own B w0 w (a :: b :: ch i :: c :: (((List.range n).erase i).map ch ++ R)) := by
 obtain ⟨c, rv, ch, rfl, h2, h3⟩ := h
 refine ⟨c, rv, ch, h2, h3, ho.perm (((?_ : List.Perm _ _).cons b).cons a)⟩
 have p := (List.perm_cons_erase (List.mem_range.2 hi)).map ch
 exact ((p.append_right R).cons c).trans (List.Perm.swap _ _ _)
theorem tab_put {B : Nat} {w0 w : World} {v x : Value} {T1 T2 : TypeId} {n m : Nat} {L : Int → Nat} {F : Int → Int → Value} {G : Int → Value} {R : List (Option Blk)} {a b y c cr : Option Blk} {rv : Int → Value} {ch : Nat → Option Blk} (i : Nat) (hi : i < n)
  (hv : IRow v T1 n (upd rv i x) c) (h3 : ∀ r : Nat, r < n → IRow (rv r) T2 (L r) (F r) (ch r)) (hx : IRow x T2 m G cr) (ho : Own B w0 w (cr :: a :: b :: y :: c :: (((List.range n).erase i).map ch ++ R))) :
  ∃ H, OTab v T1 T2 n (upd L i m) (upd F i G) H ∧ Own B w0 w (a :: b :: (H ++ R)) := by
 have ho2 := ho.sub (.cons_cons _ (.cons_cons _ (.cons_cons _ (.cons _ (.refl _)))))
 have p1 : (cr :: a :: b :: c :: (((List.range n).erase i).map ch ++ R)).Perm (cr :: c :: (((List.range n).erase i).map ch ++ (a :: b :: R))) := by
  refine List.Perm.cons _ ?_
  refine List.Perm.trans ?_ (List.perm_middle (l₁ := c :: ((List.range n).erase i).map ch)).symm
  exact ((List.perm_middle (l₁ := c :: ((List.range n).erase i).map ch)).symm).cons a
 obtain ⟨H, hT, hO⟩ := OTab.put9 i hi hv h3 hx (ho2.perm p1)
 exact ⟨H, hT, hO.perm (List.perm_middle.trans ((List.perm_middle).cons a))⟩
theorem tab_put2 {B : Nat} {w0 w : World} {v x : Value} {T1 T2 : TypeId} {n m : Nat} {L : Int → Nat} {F : Int → Int → Value} {G : Int → Value} {R : List (Option Blk)} {a b c cr : Option Blk} {rv : Int → Value} {ch : Nat → Option Blk} (i : Nat) (hi : i < n)
  (hv : IRow v T1 n (upd rv i x) c) (h3 : ∀ r : Nat, r < n → IRow (rv r) T2 (L r) (F r) (ch r)) (hx : IRow x T2 m G cr) (ho : Own B w0 w (a :: b :: cr :: c :: (((List.range n).erase i).map ch ++ R))) :
  ∃ H, OTab v T1 T2 n (upd L i m) (upd F i G) H ∧ Own B w0 w (a :: b :: (H ++ R)) :=
 tab_put (y := none) i hi hv h3 hx (ho.nil_cons.perm (List.Perm.append_right (c :: (((List.range n).erase i).map ch ++ R)) (l₁ := [none, a, b, cr]) (l₂ := [cr, a, b, none])
  ((List.perm_append_comm (l₁ := [none]) (l₂ := [a, b, cr])).trans ((List.perm_append_comm (l₁ := [a, b]) (l₂ := [cr, none])).trans ((List.perm_append_comm (l₁ := [none]) (l₂ := [a, b])).cons cr)))))
end Go.Proofs.YtbepolognfdkeaaGreat
set_option maxRecDepth 100000
namespace Go.Proofs.YtbepolognfdkeaaGreat
open Go.RowKit Go.Proofs
theorem connect_any {B : Nat} {w0 : World} {G : Net} {R HO : List (Option Blk)} {cp : Option Blk} {oa la sa pa : Option Addr} {n lc m sc pc oc wb : Nat} {fl : Int} (L : Int → Int) (u v cap : Int) (w : World) (u0 : 0 ≤ u) (u1 : u < G.nn) (v0 : 0 ≤ v) (v1 : v < G.nn) (hne : u ≠ v)
  (hnn : G.nn ≤ 100000) (hnp : G.np < 1000000) (hol : ∀ t : Int, 0 ≤ t → t < G.nn → G.OL t ≤ 2000000) (hT : OTab (.slice oa G.nn oc) 36 3 G.nn G.OL (fun t k => iv (G.OE t k)) HO) (hr : SRow (.slice pa (2 * G.np) pc) 118 2 (2 * G.np) (pipF G L) cp)
  (hO : Own B w0 w (some (lch wb 71 (wkL la n lc sa m sc pa (2 * G.np) pc oa G.nn oc fl)) :: cp :: (HO ++ R))) :
  Calls Tryz.prog 55 #[ptr wb, iv u, iv v, iv cap] w fun e w' => e = .returned (.tuple #[]) ∧ ∃ (pa' : Option Addr) (pc' : Nat) (cp' : Option Blk) (HO' : List (Option Blk)), OTab (.slice oa G.nn oc) 36 3 G.nn (G.conn u v cap).OL (fun t k => iv ((G.conn u v cap).OE t k)) HO' ∧
   SRow (.slice pa' (2 * (G.np + 1)) pc') 118 2 (2 * (G.np + 1)) (pipF (G.conn u v cap) (G.connL L cap)) cp' ∧ Own B w0 w' (some (lch wb 71 (wkL la n lc sa m sc pa' (2 * (G.np + 1)) pc' oa G.nn oc fl)) :: cp' :: (HO' ++ R)) := by
 obtain ⟨u, rfl⟩ := Int.eq_ofNat_of_zero_le u0
 obtain ⟨v, rfl⟩ := Int.eq_ofNat_of_zero_le v0
 have hun : u < G.nn := by omega
 have hvn : v < G.nn := by omega
 have holu := hol u u0 u1
 have holv := hol v v0 v1
 obtain ⟨co, rv, ch, hv, h3, hOt⟩ := tab_take hT hO u hun
 have h3u := h3 u hun
 obtain ⟨ra, rc, erv⟩ := Row.val h3u
 rw [erv] at h3u
 obtain ⟨gb, hgb⟩ := hv.addr
 have hgb' := hgb (by omega)
 refine calls_of_run (F := [(0, _), (1, _), (2, _), (3, _)]) Tryz.func55 rfl Tryz.ntmps55 rfl rfl <| run_seq <| run_late (fun w' => Own B w0 w' ([some (lch wb 71 (wkL la n lc sa m sc pa (2 * G.np) pc oa G.nn oc fl)), co])) 20 mixed ?_
 have hO2 := hOt.drew
 generalize World.drew w = w1 at hO2 ⊢
 have hS3 : Own B w0 w1 ([some (lch wb 71 (wkL la n lc sa m sc pa (2 * G.np) pc oa G.nn oc fl)), co]) := by first | exact hO2.sub (.cons_cons _ (.cons _ (.cons _ (.cons_cons _ (List.nil_sublist _))))) | exact hO2.sub (.cons _ (.cons_cons _ (.cons _ (.cons _ (.cons_cons _ (List.nil_sublist _))))))
 refine rhl_v 0 rfl (by kernel_rfl) rfl rfl rfl hS3 (fun _ hS => ov_move rfl rfl) ?_
 refine rhl_v 1 rfl (by kernel_rfl) rfl rfl rfl hS3 (fun _ hS => ov_nil rfl rfl) ?_
 refine rhl_v 2 rfl (by kernel_rfl) rfl rfl rfl hS3 (fun _ hS => ov_fieldS rfl Tryz.underlying71 rfl (fo := 3) rfl (by kernel_rfl) rfl) ?_
 refine rhl_v 3 rfl (by kernel_rfl) rfl rfl rfl hS3 (fun _ hS => ov_load rfl Tryz.underlying69 rfl rfl (by exact hS.cellL 0 rfl (off := 3) rfl)) ?_
 refine rhl_v 4 rfl (by kernel_rfl) rfl rfl rfl hS3 (fun _ hS => ov_move rfl rfl) ?_
 refine rhl_v 5 rfl (by kernel_rfl) rfl rfl rfl hS3 (fun _ hS => ov_move rfl rfl) ?_
 refine rhl_v 6 rfl (by kernel_rfl) rfl rfl rfl hS3 (fun _ hS => ov_nil rfl rfl) ?_
 refine rhl_v 7 rfl (by kernel_rfl) rfl rfl rfl hS3 (fun _ hS => ov_fieldS rfl Tryz.underlying71 rfl (fo := 3) rfl (by kernel_rfl) rfl) ?_
 refine rhl_v 8 rfl (by kernel_rfl) rfl rfl rfl hS3 (fun _ hS => ov_load rfl Tryz.underlying69 rfl rfl (by exact hS.cellL 0 rfl (off := 3) rfl)) ?_
 refine rhl_v 9 rfl (by kernel_rfl) rfl rfl rfl hS3 (fun _ hS => ov_move rfl rfl) ?_
 refine rhl_v 10 rfl (by kernel_rfl) rfl rfl rfl hS3 (fun _ hS => ov_index1 rfl Tryz.underlying69 (by kernel_rfl) rfl rfl ⟨by omega, by omega⟩ (by exact (id hgb'))) ?_
 refine rhl_v 11 rfl (by kernel_rfl) rfl rfl rfl hS3 (fun _ hS => ov_load rfl Tryz.underlying36 rfl rfl (by exact (hv.cellU hS 1 rfl hgb' (i := u) (by omega) (by omega)).trans (congrArg some erv))) ?_
 refine rhl_v 12 rfl (by kernel_rfl) rfl rfl rfl hS3 (fun _ hS => ov_move rfl rfl) ?_
 refine rhl_v 13 rfl (by kernel_rfl) rfl rfl rfl hS3 (fun _ hS => ov_nil rfl rfl) ?_
 refine rhl_v 14 rfl (by kernel_rfl) rfl rfl rfl hS3 (fun _ hS => ov_fieldS rfl Tryz.underlying71 rfl (fo := 2) rfl (by kernel_rfl) rfl) ?_
 refine rhl_v 15 rfl (by kernel_rfl) rfl rfl rfl hS3 (fun _ hS => ov_load rfl Tryz.underlying68 rfl rfl (by exact hS.cellL 0 rfl (off := 2) rfl)) ?_
 refine rhl_v 16 rfl (by kernel_rfl) rfl rfl rfl hS3 (fun _ hS => ov_len rfl Tryz.underlying68 rfl) ?_
 refine rhl_any1 17 (by kernel_rfl) ?_
 refine rcl_op rfl rfl (ow_one rfl rfl rfl Tryz.underlying36 info_3 rfl hO2 rfl rfl) ?_
 rintro _ w4 ⟨b25, rfl, hO5, hs6⟩
 have hS7 : Own B w0 w4 ([some (lch wb 71 (wkL la n lc sa m sc pa (2 * G.np) pc oa G.nn oc fl)), co]) := by first | exact hO5.sub (.cons_cons _ (.cons _ (.cons _ (.cons_cons _ (List.nil_sublist _))))) | exact hO5.sub (.cons _ (.cons_cons _ (.cons _ (.cons _ (.cons_cons _ (List.nil_sublist _))))))
 refine ⟨hS7, ?_⟩
 refine rhl_any1 18 (by kernel_rfl) ?_
 refine rcl_op rfl rfl (ow_app1 rfl rfl rfl Tryz.underlying36 info_3 rfl hO5 2 h3u rfl rfl rfl rfl ⟨by omega, by omega⟩) ?_
 rintro _ w8 ⟨v26, c26, rfl, hO9, hr26, hs10⟩
 have hS11 : Own B w0 w8 ([some (lch wb 71 (wkL la n lc sa m sc pa (2 * G.np) pc oa G.nn oc fl)), co]) := by first | exact hO9.sub (.cons_cons _ (.cons _ (.cons _ (.cons_cons _ (List.nil_sublist _))))) | exact hO9.sub (.cons _ (.cons_cons _ (.cons _ (.cons _ (.cons_cons _ (List.nil_sublist _))))))
 refine ⟨hS11, ?_⟩
 obtain ⟨a26, cp26, rfl⟩ := Row.val hr26
 refine rhl_v 19 rfl (by kernel_rfl) rfl rfl rfl hS11 (fun _ hS => ov_index1 rfl Tryz.underlying69 (by kernel_rfl) rfl rfl ⟨by omega, by omega⟩ (by exact (id hgb'))) ?_
 refine rhl_any1 20 (by kernel_rfl) ?_
 refine rcl_last rfl rfl (ow_storeI1 rfl rfl (by kernel_rfl) hO9 3 hv rfl hgb rfl ⟨by omega, by omega⟩ rfl rfl) ?_
 rintro _ w12 ⟨c9, rfl, hO13, hv9, hs14⟩
 obtain ⟨H2, hT2, hO9⟩ := tab_put2 (L := G.OL) (F := fun t k => iv (G.OE t k)) u hun hv9 h3 hr26 hO13
 obtain ⟨co2, rv2, ch2, hv2, h32, hOt2⟩ := tab_take hT2 hO9 v hvn
 have h3v := h32 v hvn
 rw [upd_ne _ _ (by omega), upd_ne _ _ (by omega)] at h3v
 obtain ⟨ra2, rc2, erv2⟩ := Row.val h3v
 rw [erv2] at h3v
 refine rhl_done (by kernel_rfl) ?_
 refine run_seq <| run_late (fun w' => Own B w0 w' ([some (lch wb 71 (wkL la n lc sa m sc pa (2 * G.np) pc oa G.nn oc fl)), co2])) 21 mixed ?_
 have hO16 := hOt2.drew
 generalize World.drew w12 = w15 at hO16 ⊢
 have hS17 : Own B w0 w15 ([some (lch wb 71 (wkL la n lc sa m sc pa (2 * G.np) pc oa G.nn oc fl)), co2]) := by first | exact hO16.sub (.cons_cons _ (.cons _ (.cons _ (.cons_cons _ (List.nil_sublist _))))) | exact hO16.sub (.cons _ (.cons_cons _ (.cons _ (.cons _ (.cons_cons _ (List.nil_sublist _))))))
 refine rhl_v 0 rfl (by kernel_rfl) rfl rfl rfl hS17 (fun _ hS => ov_move rfl rfl) ?_
 refine rhl_v 1 rfl (by kernel_rfl) rfl rfl rfl hS17 (fun _ hS => ov_nil rfl rfl) ?_
 refine rhl_v 2 rfl (by kernel_rfl) rfl rfl rfl hS17 (fun _ hS => ov_fieldS rfl Tryz.underlying71 rfl (fo := 3) rfl (by kernel_rfl) rfl) ?_
 refine rhl_v 3 rfl (by kernel_rfl) rfl rfl rfl hS17 (fun _ hS => ov_load rfl Tryz.underlying69 rfl rfl (by exact hS.cellL 0 rfl (off := 3) rfl)) ?_
 refine rhl_v 4 rfl (by kernel_rfl) rfl rfl rfl hS17 (fun _ hS => ov_move rfl rfl) ?_
 refine rhl_v 5 rfl (by kernel_rfl) rfl rfl rfl hS17 (fun _ hS => ov_move rfl rfl) ?_
 refine rhl_v 6 rfl (by kernel_rfl) rfl rfl rfl hS17 (fun _ hS => ov_nil rfl rfl) ?_
 refine rhl_v 7 rfl (by kernel_rfl) rfl rfl rfl hS17 (fun _ hS => ov_fieldS rfl Tryz.underlying71 rfl (fo := 3) rfl (by kernel_rfl) rfl) ?_
 refine rhl_v 8 rfl (by kernel_rfl) rfl rfl rfl hS17 (fun _ hS => ov_load rfl Tryz.underlying69 rfl rfl (by exact hS.cellL 0 rfl (off := 3) rfl)) ?_
 refine rhl_v 9 rfl (by kernel_rfl) rfl rfl rfl hS17 (fun _ hS => ov_move rfl rfl) ?_
 refine rhl_v 10 rfl (by kernel_rfl) rfl rfl rfl hS17 (fun _ hS => ov_index1 rfl Tryz.underlying69 (by kernel_rfl) rfl rfl ⟨by omega, by omega⟩ (by exact (id hgb'))) ?_
 refine rhl_v 11 rfl (by kernel_rfl) rfl rfl rfl hS17 (fun _ hS => ov_load rfl Tryz.underlying36 rfl rfl (by exact (hv2.cellU hS 1 rfl hgb' (i := v) (by omega) (by omega)).trans (congrArg some erv2))) ?_
 refine rhl_v 12 rfl (by kernel_rfl) rfl rfl rfl hS17 (fun _ hS => ov_move rfl rfl) ?_
 refine rhl_v 13 rfl (by kernel_rfl) rfl rfl rfl hS17 (fun _ hS => ov_nil rfl rfl) ?_
 refine rhl_v 14 rfl (by kernel_rfl) rfl rfl rfl hS17 (fun _ hS => ov_fieldS rfl Tryz.underlying71 rfl (fo := 2) rfl (by kernel_rfl) rfl) ?_
 refine rhl_v 15 rfl (by kernel_rfl) rfl rfl rfl hS17 (fun _ hS => ov_load rfl Tryz.underlying68 rfl rfl (by exact hS.cellL 0 rfl (off := 2) rfl)) ?_
 refine rhl_v 16 rfl (by kernel_rfl) rfl rfl rfl hS17 (fun _ hS => ov_len rfl Tryz.underlying68 rfl) ?_
 refine rhl_v 17 rfl (by kernel_rfl) rfl rfl rfl hS17 (fun _ hS => ov_add rfl rfl rfl (by omega)) ?_
 refine rhl_any1 18 (by kernel_rfl) ?_
 refine rcl_op rfl rfl (ow_one rfl rfl rfl Tryz.underlying36 info_3 rfl hO16 rfl rfl) ?_
 rintro _ w18 ⟨b46, rfl, hO19, hs20⟩
 have hS21 : Own B w0 w18 ([some (lch wb 71 (wkL la n lc sa m sc pa (2 * G.np) pc oa G.nn oc fl)), co2]) := by first | exact hO19.sub (.cons_cons _ (.cons _ (.cons _ (.cons_cons _ (List.nil_sublist _))))) | exact hO19.sub (.cons _ (.cons_cons _ (.cons _ (.cons _ (.cons_cons _ (List.nil_sublist _))))))
 refine ⟨hS21, ?_⟩
 refine rhl_any1 19 (by kernel_rfl) ?_
 refine rcl_op rfl rfl (ow_app1 rfl rfl rfl Tryz.underlying36 info_3 rfl hO19 2 h3v rfl rfl rfl rfl ⟨by omega, by omega⟩) ?_
 rintro _ w22 ⟨v47, c47, rfl, hO23, hr47, hs24⟩
 have hS25 : Own B w0 w22 ([some (lch wb 71 (wkL la n lc sa m sc pa (2 * G.np) pc oa G.nn oc fl)), co2]) := by first | exact hO23.sub (.cons_cons _ (.cons _ (.cons _ (.cons_cons _ (List.nil_sublist _))))) | exact hO23.sub (.cons _ (.cons_cons _ (.cons _ (.cons _ (.cons_cons _ (List.nil_sublist _))))))
 refine ⟨hS25, ?_⟩
 obtain ⟨a47, cp47, rfl⟩ := Row.val hr47
 refine rhl_v 20 rfl (by kernel_rfl) rfl rfl rfl hS25 (fun _ hS => ov_index1 rfl Tryz.underlying69 (by kernel_rfl) rfl rfl ⟨by omega, by omega⟩ (by exact (id hgb'))) ?_
 refine rhl_any1 21 (by kernel_rfl) ?_
 refine rcl_last rfl rfl (ow_storeI1 rfl rfl (by kernel_rfl) hO23 3 hv2 rfl hgb rfl ⟨by omega, by omega⟩ rfl rfl) ?_
 rintro _ w26 ⟨c10, rfl, hO27, hv10, hs28⟩
 obtain ⟨H3, hT3, hO10⟩ := tab_put2 (L := upd G.OL u (G.OL u + 1)) (F := _) v hvn hv10 h32 hr47 hO27
 refine rhl_done (by kernel_rfl) ?_
 refine run_region <| rl_v rfl rfl rfl (ov_move rfl rfl) <| rl_v rfl rfl rfl (ov_move rfl rfl) <| rl_v rfl rfl rfl (ov_nil rfl rfl) <| rl_v rfl rfl rfl (ov_fieldS rfl Tryz.underlying71 rfl (fo := 2) rfl (by kernel_rfl) rfl) ?_
 refine rl_v rfl rfl rfl (ov_load rfl Tryz.underlying68 rfl rfl (by exact hO10.cellL 0 rfl (off := 2) rfl)) ?_
 refine rl_v rfl rfl rfl (ov_move rfl rfl) <| rl_v rfl rfl rfl (ov_move rfl rfl) <| rl_v rfl rfl rfl (ov_buildL rfl lay_118 rfl (us := [_, _]) rfl) <| rl_v rfl rfl rfl (ov_move rfl rfl) <| rl_v rfl rfl rfl (ov_buildL rfl lay_118 rfl (us := [_, _]) rfl) <| rl_ow rfl (ow_build [_, _] rfl rfl rfl rfl rfl Tryz.underlying68 info_118 (by decide) hO10 rfl rfl) ?_
 rintro _ w29 ⟨b59, rfl, hO30, hs31⟩
 refine rl_ow rfl (ow_appR2 rfl rfl rfl Tryz.underlying68 info_118 rfl rfl hO30 1 hr rfl rfl rfl rfl rfl rfl rfl ⟨by omega, by omega⟩) ?_
 rintro _ w32 ⟨v60, c60, rfl, hO33, hr60, hs34⟩
 obtain ⟨a60, cp60, rfl⟩ := Row.val hr60
 refine rl_v rfl rfl rfl (ov_nil rfl rfl) <| rl_v rfl rfl rfl (ov_fieldS rfl Tryz.underlying71 rfl (fo := 2) rfl (by kernel_rfl) rfl) ?_
 refine rl_ow rfl (ow_storeL rfl rfl (by kernel_rfl) hO33 0 rfl rfl rfl rfl rfl) ?_
 rintro _ w35 ⟨rfl, hO36, hs37⟩
 have hne2 : (u : Int) ≠ v := hne
 have hT4 := hT3.congr2 (L' := (G.conn u v cap).OL) (G := fun t k => iv ((G.conn u v cap).OE t k)) (fun t t0 t1 => by
  rw [Net.conn_ol hne2]
  by_cases a : t = v
  ·rw [a, upd_same, if_pos rfl]
  ·rw [upd_ne _ _ a, if_neg a]
   by_cases b : t = u
   ·rw [b, upd_same, if_pos rfl]
   ·rw [upd_ne _ _ b, if_neg b]) (fun t k t0 t1 k0 k1 => by
  rw [Net.conn_oe hne2]
  by_cases a : t = v
  ·rw [a, upd_same, if_pos rfl]
   unfold upd; split <;> first | rfl | exact congrArg iv (by omega)
  ·rw [upd_ne _ _ a, if_neg a]
   by_cases b : t = u
   ·rw [b, upd_same, if_pos rfl]
    unfold upd; split <;> first | rfl | exact congrArg iv (by omega)
   ·rw [upd_ne _ _ b, if_neg b])
 have hr61 := hr60.congr (G' := pipF (G.conn u v cap) (G.connL L cap)) (fun i i0 i1 => by
  unfold pipF Net.connL
  by_cases a : i = 2 * G.np + 1
  ·rw [a, Net.conn_to1, upd_same]
   rw [show ((2 * G.np : Nat) : Int) + 1 = 2 * (G.np : Int) + 1 by omega, upd_same]
  ·rw [upd_ne _ _ (by omega), upd_ne _ _ a]
   by_cases b : i = 2 * G.np
   ·rw [b, Net.conn_to0, upd_same, show ((2 * G.np : Nat) : Int) = 2 * (G.np : Int) by omega, upd_same]
   ·rw [upd_ne _ _ (by omega), upd_ne _ _ b, Net.conn_to (by omega)])
 refine rl_nil <| run_end Tryz.func55 (res0 Tryz.results55) ?_
 exact ⟨rfl, a60, cp60, c60, H3, hT4, hr61, hO36⟩
end Go.Proofs.YtbepolognfdkeaaGreat
