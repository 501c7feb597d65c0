import Derived.Test.YteagflekbbchhaaRfA
set_option maxRecDepth 100000
namespace Go.Proofs.Yteagflekbbchhaa
open Go.RowKit Go.Proofs Go.MapKept
theorem MapIs.val {L : List (Int × Value)} {g : Int → Ds} (h : MapIs L g) {i : Nat} {k : Int} {v : Value} (hi : L[i]? = some (k, v)) : v = dsv (g k) := by
 have e := at_fnd (s := 0) h.nd hi
 have e2 := fnd_lkp L k 0
 rw [e] at e2
 rcases h.at_ k with ⟨h1, _⟩ | h1
 ·rw [h1] at e2; cases e2
 ·rw [h1] at e2; exact Option.some.inj e2
theorem cfork_any (C mb w1 w2 k j rn rcp : Nat) (ro : Option Addr) (l : Lg) (L : List (Int × Value)) (g : Int → Ds) (B : Nat) (H : List (Option Blk)) (w0 w : World) (hO : Own B w0 w H) (hM : MapIs L g)
  (hk : H[k]? = some (some (lch C 104 (lcells (.slice ro rn rcp) l [ptr w1, .map (some mb)])))) (hj : H[j]? = some (some (mch mb L))) :
  Calls Try.prog 106 #[ptr C, ptr w2] w fun e w' => ∃ c2 mb2 L2, e = .returned (.iface 98 (ptr c2)) ∧ MapIs L2 g ∧ Own B w0 w' (some (lch c2 104 (lcells (.slice ro rn rcp) l [ptr w2, .map (some mb2)])) :: some (mch mb2 L2) :: H) := by
 refine calls_of_run (F := [(0, _), (1, _)]) Try.func106 rfl Try.ntmps106 rfl rfl <| run_seq <| run_region <| rl_v rfl rfl rfl (ov_assign rfl rfl) <| rl_nil <| run_seq <| run_region <| rl_v rfl rfl rfl (ov_move rfl rfl) <| rl_v rfl rfl rfl (ov_nil rfl rfl) <| rl_v rfl rfl rfl (ov_loadW rfl Try.underlying104 rfl (by kernel_rfl) rfl hO k (hk)) ?_
 refine rl_ow rfl (ow_alloc _ rfl rfl rfl zero_104 rfl hO) ?_
 rintro _ w1 ⟨b5, rfl, hO2, hs3⟩
 refine rl_ow rfl (ow_storeW rfl rfl (by kernel_rfl) hO2 0 rfl rfl (by rfl) rfl (by rfl)) ?_
 rintro _ w4 ⟨rfl, hO5, hs6⟩
 refine rl_nil <| run_seq <| run_region <| rl_v rfl rfl rfl (ov_move rfl rfl) <| rl_ow rfl (ow_makemap rfl rfl rfl hO5) ?_
 rintro _ w7 ⟨b12, rfl, hO8, hs9⟩
 refine rl_v rfl rfl rfl (ov_fieldS rfl Try.underlying104 rfl (fo := 4) rfl (by kernel_rfl) rfl) ?_
 refine rl_ow rfl (ow_storeL rfl rfl (by kernel_rfl) hO8 1 rfl rfl rfl rfl rfl) ?_
 rintro _ w10 ⟨rfl, hO11, hs12⟩
 refine rl_v rfl rfl rfl (ov_fieldS rfl Try.underlying104 rfl (fo := 5) rfl (by kernel_rfl) rfl) ?_
 refine rl_ow rfl (ow_storeL rfl rfl (by kernel_rfl) hO11 1 rfl rfl rfl rfl rfl) ?_
 rintro _ w13 ⟨rfl, hO14, hs15⟩
 refine rl_nil <| run_seq <| run_seq <| run_region <| rl_v rfl rfl rfl (ov_move rfl rfl) <| rl_v rfl rfl rfl (ov_nil rfl rfl) <| rl_v rfl rfl rfl (ov_fieldS rfl Try.underlying104 rfl (fo := 5) rfl (by kernel_rfl) rfl) ?_
 refine rl_v rfl rfl rfl (ov_load rfl Try.underlying99 rfl rfl (by exact hO14.cellL (k + 2) hk (off := 5) rfl)) ?_
 refine rl_ow rfl (ow_range rfl rfl rfl Try.underlying99 hO14 (j + 2) hj rfl) ?_
 rintro _ w16 ⟨r, rfl, hI⟩
 refine rl_nil <| run_block <| Run.keep [5, 19] (F' := [(5, _), (19, _)]) rfl <| run_loop2 (fun (seen : Array Nat) (L2 : List (Int × Value)) => []) [5, 19] (fun (seen : Array Nat) (L2 : List (Int × Value)) (w19 : World) => It B w0 w19 (some (mch b12 L2) :: some (lch b5 104 (lcells (.slice ro rn rcp) l [ptr w2, .map (some b12)])) :: H) r mb L.length seen ∧ Cpd L seen L2) (fun (seen : Array Nat) (L2 : List (Int × Value)) => (leftOf (ents L 0).toArray seen).size) (#[]) ([]) ?_ (And.intro rfl (And.intro rfl trivial)) ?_
 ·exact ⟨hI, Cpd.nil L⟩
 intro seen L2 w19 hIw19 ih20
 obtain ⟨hI, hc⟩ := hIw19
 show Run _ _ _ _ [(5, _), (19, _)] _ _
 refine run_seq <| run_region <| rl_ow rfl (ow_next rfl rfl rfl hI (j + 2) hj rfl) ?_
 rintro _ w21 ⟨bb, xs, seen2, rfl, hxs, hI2, hf, ht⟩
 refine rl_v rfl rfl rfl (ov_extract rfl rfl hxs) <| rl_nil <| run_seq ?_
 first | refine run_cond_dec rfl (fun z1 => ?_) (fun z2 => ?_) | refine run_cond rfl (fun z1 => ?_) (fun z2 => ?_)
 ·obtain ⟨i, kk, v, hi, rfl, hlt⟩ := ht z1
  obtain rfl := hM.val hi
  refine run_skip <| run_block <| run_seq <| run_region <| rl_v rfl rfl rfl (ov_entry rfl hI2 (j + 2) hj hi rfl) <| rl_v rfl rfl rfl (ov_extract rfl rfl (by rfl)) ?_
  refine rl_v rfl rfl rfl (ov_extract rfl rfl (by rfl)) ?_
  refine rl_ow rfl (ow_alloc _ rfl rfl rfl zero_125 rfl (hI2.own)) ?_
  rintro _ w24 ⟨b7, rfl, hO7, hb7⟩
  have hI3 := hI2.new hO7 hb7
  refine rl_v rfl rfl rfl (ov_assign rfl rfl) <| rl_ow rfl (ow_storeWK rfl rfl (by kernel_rfl) hO7 0 rfl rfl (by rfl) rfl (by rfl)) ?_
  rintro _ w27 ⟨rfl, hO8, hk8⟩
  have hI4 := hI3.keep hO8 (hk8 r hI3.lt (fun e => blkIs.ne (hI3.own.at_ _ (List.mem_cons_self ..)) hI3.at_ e.symm))
  refine rl_nil <| run_region <| rl_v rfl rfl rfl (ov_fieldS rfl Try.underlying104 rfl (fo := 5) rfl (by kernel_rfl) rfl) ?_
  refine rl_v rfl rfl rfl (ov_load rfl Try.underlying99 rfl rfl (by exact hO8.cellL 2 rfl rfl)) ?_
  refine rl_v rfl rfl rfl (ov_move rfl rfl) <| rl_v rfl rfl rfl (ov_loadW rfl Try.underlying125 rfl (by kernel_rfl) rfl hO8 0 rfl) ?_
  refine rl_ow rfl (ow_mapputK rfl rfl Try.underlying99 Try.underlying3 hO8 1 rfl rfl rfl rfl) ?_
  rintro _ w30 ⟨rfl, hO9, hk9⟩
  have hI5 := hI4.keep hO9 (hk9 r (fun e => blkIs.ne (hI2.own.at_ _ (List.mem_cons_self ..)) hI2.at_ e.symm))
  have hI6 : It B w0 w30 (some (mch b12 (mput L2 kk (dsv (g kk)))) :: some (lch b5 104 (lcells (.slice ro rn rcp) l [ptr w2, .map (some b12)])) :: H) r mb L.length (seen.push i) := ⟨hI5.own.tail, hI5.ge, hI5.at_⟩
  refine rl_nil <| run_inBlock ?_
  refine Run.use (ih20 (seen.push i) (mput L2 kk (dsv (g kk))) _ ?_ ?_) (And.intro rfl (And.intro rfl trivial))
  ·exact hlt
  ·exact ⟨hI6, hc.step hM.nd hi⟩
 ·obtain ⟨hf1, hf2⟩ := hf z2
  refine run_exit rfl <| run_seq <| run_region <| rl_v rfl rfl rfl (ov_iface rfl Try.underlying98 (by intro _ h; cases h) rfl) ?_
  refine rl_v rfl rfl rfl (ov_assign rfl rfl) <| rl_nil <| run_ret Try.func106 (res1 Try.results106 rfl) ?_
  exact ⟨b5, b12, L2, rfl, hc.all hf1 hM, hI2.own.swap⟩
theorem sfork_any (C w1 w2 k rn rcp fn fcp : Nat) (ro fo : Option Addr) (n : Int) (l : Lg) (B : Nat) (H : List (Option Blk)) (w0 w : World) (hO : Own B w0 w H)
  (hk : H[k]? = some (some (lch C 108 (lcells (.slice ro rn rcp) l [ptr w1, iv n, .slice fo fn fcp])))) :
  Calls Try.prog 112 #[ptr C, ptr w2] w fun e w' => ∃ s2, e = .returned (.iface 105 (ptr s2)) ∧ Own B w0 w' (some (lch s2 108 (lcells (.slice ro rn rcp) l [ptr w2, iv n, .slice fo fn fcp])) :: H) := by
 refine calls_of_run (F := [(0, _), (1, _)]) Try.func112 rfl Try.ntmps112 rfl rfl <| run_seq <| run_region <| rl_v rfl rfl rfl (ov_assign rfl rfl) <| rl_nil <| run_seq <| run_region <| rl_v rfl rfl rfl (ov_move rfl rfl) <| rl_v rfl rfl rfl (ov_nil rfl rfl) <| rl_v rfl rfl rfl (ov_loadW rfl Try.underlying108 rfl (by kernel_rfl) rfl hO k (hk)) ?_
 refine rl_ow rfl (ow_alloc _ rfl rfl rfl zero_108 rfl hO) ?_
 rintro _ w1 ⟨b5, rfl, hO2, hs3⟩
 refine rl_ow rfl (ow_storeW rfl rfl (by kernel_rfl) hO2 0 rfl rfl (by rfl) rfl (by rfl)) ?_
 rintro _ w4 ⟨rfl, hO5, hs6⟩
 refine rl_nil <| run_seq <| run_region <| rl_v rfl rfl rfl (ov_move rfl rfl) <| rl_v rfl rfl rfl (ov_fieldS rfl Try.underlying108 rfl (fo := 4) rfl (by kernel_rfl) rfl) ?_
 refine rl_ow rfl (ow_storeL rfl rfl (by kernel_rfl) hO5 0 rfl rfl rfl rfl rfl) ?_
 rintro _ w7 ⟨rfl, hO8, hs9⟩
 refine rl_nil <| run_seq <| run_region <| rl_v rfl rfl rfl (ov_iface rfl Try.underlying105 (by intro _ h; cases h) rfl) ?_
 refine rl_v rfl rfl rfl (ov_assign rfl rfl) <| rl_nil <| run_ret Try.func112 (res1 Try.results112 rfl) ?_
 exact ⟨b5, rfl, hO8⟩
end Go.Proofs.Yteagflekbbchhaa
