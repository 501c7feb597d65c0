import Derived.Test.YtfbbagnpdfafjaaHaM
set_option maxRecDepth 100000
namespace Go.Proofs.Ytfbbagnpdfafjaa
open Go.RowKit Go.Proofs
section
variable {P : Program} {N : Nat} {o : Oper} {F : Fr} {w : World} {B : Nat} {w0 : World} {H : List (Option Blk)}
theorem ow_storeFld {T : TypeId} {p x : Operand} {ab n cap fo : Nat} {G : Int → HA} {c : Option Blk} {i : Int} {v : Value} {a' : HA} (hd : o.dst = none) (ho : o.op = .store T p x) (hi : (P.info? T).map (·.size) = some 1)
  (hO : Own B w0 w H) (kk : Nat) (hr : AccRow ab n cap G c) (hk : H[kk]? = some c) (hp : Fr.ev F p = some (.pointer (some ⟨ab, 0 + i.toNat * 15 + fo, none⟩))) (hb : 0 ≤ i ∧ i < n) (hf : fo < 15)
  (hx : Fr.ev F x = some v) (h1 : v.oneCell' = true) (hs : (accL (G i)).set fo v = accL a') :
  OpW P N o F w (fun F' w' => ∃ c', F' = F ∧ Own B w0 w' (H.set kk c') ∧ AccRow ab n cap (upd G i a') c' ∧ w'.heap.size = w.heap.size) := by
 obtain ⟨c', h2, h3, h4, h5⟩ := SRow.store hr hO kk hk rfl (fun _ => rfl) i hb.1 hb.2 fo hf accL_len v
 obtain ⟨u, hu⟩ := Option.isSome_iff_exists.1 h4
 refine (ow_u (w' := w.setCell ⟨ab, 0 + i.toNat * 15 + fo, none⟩ v) hd (fun a ha => ?_)).mono fun F' w' ⟨e1, e2⟩ => ⟨c', e1, by rw [e2]; exact h2, h3.congr fun j _ _ => accs_upd hs j, by rw [e2]; simp⟩
 have hrun := run_storeAt_one (P := P) w ab (0 + i.toNat * 15 + fo) T v _ hu h5 hi h1
 unfold execOp
 simp only [ho, ha.ev hp, ha.ev hx, Sem.run_bind, hrun, Result.andThen_ok, Sem.run_pure]
end
theorem own_any (hb B : Nat) (X : HM) (K : HK) (i x : Int) (H : List (Option Blk)) (w0 w : World) (hO : Own B w0 w H) (k kb : Nat) (hk : H[k]? = some (houB hb (X.r K))) (hkb : H[kb]? = some K.blk) (hr : AccRow K.ab X.mem K.acap X.ac K.blk) (hm : X.mem ≤ 64) (hi : 1 ≤ i ∧ i ≤ X.mem) (hf : 0 ≤ (X.acct i).fund ∧ (X.acct i).fund ≤ 10000000000000000) (hx : 0 ≤ x) :
  Calls Try.prog 68 #[ptr hb, iv i, iv x] w fun e w' => e = .returned (iv (min x (X.acct i).fund)) ∧ ∃ c, AccRow K.ab X.mem K.acap (upd X.ac (i - 1) { X.acct i with fund := (X.acct i).fund - min x (X.acct i).fund }) c ∧ Own B w0 w' (H.set kb c) := by
 refine calls_of_run (F := [(0, _), (1, _), (2, _)]) Try.func68 rfl Try.ntmps68 rfl rfl <| run_seq <| run_region <| rl_v rfl rfl rfl (ov_assign rfl rfl) <| rl_nil <| run_seq <| run_region <| rl_v rfl rfl rfl (ov_move rfl rfl) <| rl_v rfl rfl rfl (ov_nil rfl rfl) <| rl_v rfl rfl rfl (ov_fieldS rfl Try.underlying124 rfl (fo := 17) rfl (by kernel_rfl) rfl) ?_
 refine rl_v rfl rfl rfl (ov_load rfl Try.underlying120 rfl rfl (by exact hO.cellL k hk (off := 17) rfl)) ?_
 refine rl_v rfl rfl rfl (ov_move rfl rfl) <| rl_v rfl rfl rfl (ov_sub rfl rfl rfl (by omega)) ?_
 refine rl_v rfl rfl rfl (ov_index rfl Try.underlying120 (by kernel_rfl) (s := 15) rfl rfl ⟨by omega, show i - 1 < (X.mem : Int) by omega⟩ rfl) ?_
 refine rl_v rfl rfl rfl (ov_assign rfl rfl) <| rl_nil <| run_seq <| run_region <| rl_v rfl rfl rfl (ov_move rfl rfl) <| rl_v rfl rfl rfl (ov_move rfl rfl) <| rl_v rfl rfl rfl (ov_nil rfl rfl) <| rl_v rfl rfl rfl (ov_fieldS rfl Try.underlying127 rfl (fo := 1) rfl (by kernel_rfl) rfl) ?_
 refine rl_v rfl rfl rfl (ov_load rfl Try.underlying2 rfl rfl (by exact (show _ = some (iv (X.acct i).fund) from rowRd hr hO kb hkb (i := i - 1) (by omega) (by omega) 1 (by decide)))) ?_
 refine rl_v rfl rfl rfl (ov_min rfl rfl rfl) <| rl_v rfl rfl rfl (ov_assign rfl rfl) <| rl_nil <| run_seq <| run_region <| rl_v rfl rfl rfl (ov_move rfl rfl) <| rl_v rfl rfl rfl (ov_nil rfl rfl) <| rl_v rfl rfl rfl (ov_fieldS rfl Try.underlying127 rfl (fo := 1) rfl (by kernel_rfl) rfl) ?_
 refine rl_v rfl rfl rfl (ov_load rfl Try.underlying2 rfl rfl (by exact (show _ = some (iv (X.acct i).fund) from rowRd hr hO kb hkb (i := i - 1) (by omega) (by omega) 1 (by decide)))) ?_
 refine rl_v rfl rfl rfl (ov_move rfl rfl) <| rl_v rfl rfl rfl (ov_sub rfl rfl rfl (by omega)) ?_
 refine rl_v rfl rfl rfl (ov_nil rfl rfl) <| rl_v rfl rfl rfl (ov_fieldS rfl Try.underlying127 rfl (fo := 1) rfl (by kernel_rfl) rfl) ?_
 refine rl_ow rfl (ow_storeFld (a' := { X.acct i with fund := (X.acct i).fund - min x (X.acct i).fund }) rfl rfl (by kernel_rfl) hO kb hr hkb rfl ⟨by omega, by omega⟩ (by decide) rfl rfl rfl) ?_
 rintro _ w1 ⟨c2, rfl, hO2, hr2, hs3⟩
 refine rl_nil <| run_seq <| run_region <| rl_v rfl rfl rfl (ov_move rfl rfl) <| rl_v rfl rfl rfl (ov_assign rfl rfl) <| rl_nil <| run_ret Try.func68 (res1 Try.results68 rfl) ?_
 exact ⟨rfl, c2, hr2, hO2⟩
theorem house_any (hb B : Nat) (X : HM) (K : HK) (i x : Int) (H : List (Option Blk)) (w0 w : World) (hO : Own B w0 w H) (k : Nat) (hk : H[k]? = some (houB hb (X.r K))) (hc : 0 ≤ X.cap ∧ X.cap ≤ 10000000000000000) (hx : 0 ≤ x) :
  Calls Try.prog 69 #[ptr hb, iv i, iv x] w fun e w' => e = .returned (iv (min x X.cap)) ∧ Own B w0 w' (H.set k (houB hb (({ X with cap := X.cap - min x X.cap } : HM).r K))) := by
 refine calls_of_run (F := [(0, _), (1, _), (2, _)]) Try.func69 rfl Try.ntmps69 rfl rfl <| run_seq <| run_region <| rl_v rfl rfl rfl (ov_assign rfl rfl) <| rl_nil <| run_seq <| run_region <| rl_v rfl rfl rfl (ov_move rfl rfl) <| rl_v rfl rfl rfl (ov_move rfl rfl) <| rl_v rfl rfl rfl (ov_nil rfl rfl) <| rl_v rfl rfl rfl (ov_fieldS rfl Try.underlying124 rfl (fo := 15) rfl (by kernel_rfl) rfl) ?_
 refine rl_v rfl rfl rfl (ov_load rfl Try.underlying2 rfl rfl (by exact (show _ = some (iv X.cap) from hO.cellL k hk (off := 15) rfl))) ?_
 refine rl_v rfl rfl rfl (ov_min rfl rfl rfl) <| rl_v rfl rfl rfl (ov_assign rfl rfl) <| rl_nil <| run_seq <| run_region <| rl_v rfl rfl rfl (ov_move rfl rfl) <| rl_v rfl rfl rfl (ov_nil rfl rfl) <| rl_v rfl rfl rfl (ov_fieldS rfl Try.underlying124 rfl (fo := 15) rfl (by kernel_rfl) rfl) ?_
 refine rl_v rfl rfl rfl (ov_load rfl Try.underlying2 rfl rfl (by exact (show _ = some (iv X.cap) from hO.cellL k hk (off := 15) rfl))) ?_
 refine rl_v rfl rfl rfl (ov_move rfl rfl) <| rl_v rfl rfl rfl (ov_sub rfl rfl rfl (by omega)) ?_
 refine rl_v rfl rfl rfl (ov_nil rfl rfl) <| rl_v rfl rfl rfl (ov_fieldS rfl Try.underlying124 rfl (fo := 15) rfl (by kernel_rfl) rfl) ?_
 refine rl_ow rfl (ow_storeLx rfl rfl (by kernel_rfl) hO k hk rfl (by show 0 + 15 < ((X.r K).l).length; simp [HR.l, monL]) rfl rfl) ?_
 rintro _ w1 ⟨rfl, hO2, hs3⟩
 refine rl_nil <| run_seq <| run_region <| rl_v rfl rfl rfl (ov_move rfl rfl) <| rl_v rfl rfl rfl (ov_assign rfl rfl) <| rl_nil <| run_ret Try.func69 (res1 Try.results69 rfl) ?_
 exact ⟨rfl, hO2⟩
theorem fund_any (ab : Nat) (j : Int) (w : World) : Calls Try.prog 114 #[accP ab j] w fun e w' => e = .returned (.pointer (some ⟨ab, 0 + j.toNat * 15 + 1, none⟩)) ∧ w' = w := by
 refine calls_of_run (F := [(0, _)]) Try.func114 rfl Try.ntmps114 rfl rfl ?_
 have hO0 := Own.init w
 refine run_seq <| run_region <| rl_v rfl rfl rfl (ov_assign rfl rfl) <| rl_nil <| run_seq <| run_region <| rl_v rfl rfl rfl (ov_move rfl rfl) <| rl_v rfl rfl rfl (ov_nil rfl rfl) <| rl_v rfl rfl rfl (ov_fieldS rfl Try.underlying127 rfl (fo := 1) rfl (by kernel_rfl) rfl) ?_
 refine rl_v rfl rfl rfl (ov_assign rfl rfl) <| rl_nil <| run_ret Try.func114 (res1 Try.results114 rfl) ?_
 exact ⟨rfl, rfl⟩
theorem cash_any (ab : Nat) (j : Int) (w : World) : Calls Try.prog 115 #[accP ab j] w fun e w' => e = .returned (.pointer (some ⟨ab, 0 + j.toNat * 15 + 0, none⟩)) ∧ w' = w := by
 refine calls_of_run (F := [(0, _)]) Try.func115 rfl Try.ntmps115 rfl rfl ?_
 have hO0 := Own.init w
 refine run_seq <| run_region <| rl_v rfl rfl rfl (ov_assign rfl rfl) <| rl_nil <| run_seq <| run_region <| rl_v rfl rfl rfl (ov_move rfl rfl) <| rl_v rfl rfl rfl (ov_nil rfl rfl) <| rl_v rfl rfl rfl (ov_fieldS rfl Try.underlying127 rfl (fo := 0) rfl (by kernel_rfl) rfl) ?_
 refine rl_v rfl rfl rfl (ov_assign rfl rfl) <| rl_nil <| run_ret Try.func115 (res1 Try.results115 rfl) ?_
 exact ⟨rfl, rfl⟩
end Go.Proofs.Ytfbbagnpdfafjaa
