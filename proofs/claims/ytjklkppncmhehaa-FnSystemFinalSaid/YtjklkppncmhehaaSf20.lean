/-
What is proved: the starter's ways through Add and Wait at the program ('add_prog', 'wait_prog'). Conditions: those that each theorem states.
-/
import Derived.Test.YtjklkppncmhehaaSf19
import Derived.Test.YtjklkppncmhehaaSf12
set_option linter.unusedVariables false
set_option linter.unusedSimpArgs false
namespace Go.Proofs.Ytjklkppncmhehaa.Sr
open Go Go.Conc Go.ConcN
theorem so_0 : stOf .op 0 = 0 := by simp [stOf, KK2]
theorem kk_1 : ((1 : Nat) : Int) * KK2 = 4294967296 := by simp [KK2]
theorem so_1 : stOf .op 1 = 4294967296 := by simp [stOf, KK2]
theorem sr_1 : stOf .reg 1 = 4294967297 := by simp [stOf, KK2]
theorem kk_2 : ((2 : Nat) : Int) * KK2 = 8589934592 := by simp [KK2]
theorem so_2 : stOf .op 2 = 8589934592 := by simp [stOf, KK2]
theorem sr_2 : stOf .reg 2 = 8589934593 := by simp [stOf, KK2]
theorem kk_3 : ((3 : Nat) : Int) * KK2 = 12884901888 := by simp [KK2]
theorem so_3 : stOf .op 3 = 12884901888 := by simp [stOf, KK2]
theorem sr_3 : stOf .reg 3 = 12884901889 := by simp [stOf, KK2]
theorem kk_4 : ((4 : Nat) : Int) * KK2 = 17179869184 := by simp [KK2]
theorem so_4 : stOf .op 4 = 17179869184 := by simp [stOf, KK2]
theorem sr_4 : stOf .reg 4 = 17179869185 := by simp [stOf, KK2]
theorem kk_5 : ((5 : Nat) : Int) * KK2 = 21474836480 := by simp [KK2]
theorem so_5 : stOf .op 5 = 21474836480 := by simp [stOf, KK2]
theorem sr_5 : stOf .reg 5 = 21474836481 := by simp [stOf, KK2]
section
variable {Q : Gh → World → Trace → Nat → Outcome → World → Prop} {γ : Gh} {w : World} {p : Ph} {n0 : Nat} (c : Frame) (cs : List Frame)
def g4A (P : Program) (wg : Nat) (c : Frame) (cs : List Frame) (v : Nat) : Goroutine := ad4 P wg c cs ((v : Int) * KK2)
theorem g4A_1 (wg : Nat) : g4A Try.prog wg c cs 1 = ad4 Try.prog wg c cs 4294967296 := by unfold g4A; rw [kk_1]
theorem g4A_2 (wg : Nat) : g4A Try.prog wg c cs 2 = ad4 Try.prog wg c cs 8589934592 := by unfold g4A; rw [kk_2]
theorem g4A_3 (wg : Nat) : g4A Try.prog wg c cs 3 = ad4 Try.prog wg c cs 12884901888 := by unfold g4A; rw [kk_3]
theorem g4A_4 (wg : Nat) : g4A Try.prog wg c cs 4 = ad4 Try.prog wg c cs 17179869184 := by unfold g4A; rw [kk_4]
theorem g4A_5 (wg : Nat) : g4A Try.prog wg c cs 5 = ad4 Try.prog wg c cs 21474836480 := by unfold g4A; rw [kk_5]
theorem add_v3 (v : Nat) (h : v ≤ 4) : vst Try.prog (.int .u64 (stOf .op v)) none (ad3 Try.prog p.wg c cs) = some ⟨g4A Try.prog p.wg c cs (v + 1), #[rdE ⟨p.wg, 0, none⟩, wrE ⟨p.wg, 0, none⟩], [⟨p.wg, 0, none⟩, ⟨p.wg, 0, none⟩], [], some (⟨p.wg, 0, none⟩, .int .u64 (((v + 1 : Nat) : Int) * KK2))⟩ := by
  obtain rfl | rfl | rfl | rfl | rfl : v = 0 ∨ v = 1 ∨ v = 2 ∨ v = 3 ∨ v = 4 := by omega
  · rw [so_0, g4A_1, kk_1]; exact ad3_add_0 p.wg c cs
  · rw [so_1, g4A_2, kk_2]; exact ad3_add_1 p.wg c cs
  · rw [so_2, g4A_3, kk_3]; exact ad3_add_2 p.wg c cs
  · rw [so_3, g4A_4, kk_4]; exact ad3_add_3 p.wg c cs
  · rw [so_4, g4A_5, kk_5]; exact ad3_add_4 p.wg c cs
theorem add_n4 (v : Nat) (h1 : 2 ≤ v) (h : v ≤ 5) : mute Try.prog 87 (g4A Try.prog p.wg c cs v) = true := by
  obtain rfl | rfl | rfl | rfl : v = 2 ∨ v = 3 ∨ v = 4 ∨ v = 5 := by omega
  · rw [g4A_2]; exact ad9_mute_2 p.wg c cs
  · rw [g4A_3]; exact ad9_mute_3 p.wg c cs
  · rw [g4A_4]; exact ad9_mute_4 p.wg c cs
  · rw [g4A_5]; exact ad9_mute_5 p.wg c cs
theorem add_n8 (v : Nat) (h1 : 2 ≤ v) (h : v ≤ 5) : ∃ g9, qst Try.prog (adv Try.prog 87 (g4A Try.prog p.wg c cs v)) = some (g9, #[mkE .enable]) ∧ mute Try.prog 1 g9 = true ∧ adv Try.prog 1 g9 = adR c cs := by
  obtain rfl | rfl | rfl | rfl : v = 2 ∨ v = 3 ∨ v = 4 ∨ v = 5 := by omega
  · rw [g4A_2]; exact ad9_en_2 p.wg c cs
  · rw [g4A_3]; exact ad9_en_3 p.wg c cs
  · rw [g4A_4]; exact ad9_en_4 p.wg c cs
  · rw [g4A_5]; exact ad9_en_5 p.wg c cs
theorem add_prog (he : p.eW = 126) (hA : AtOp γ p 0 n0) (hn : n0 - p.j0 < p.n) (K : ∀ γ' w', Mv γ w γ' w' → AtOp γ' p 1 n0 → MP (sys Try.prog) Q false 0 γ' w' (adR c cs)) : MP (sys Try.prog) Q false 0 γ w (ad0 Try.prog p.wg c cs) :=
  add_way (g4 := g4A Try.prog p.wg c cs) (ad0_mute p.wg c cs) rfl (ad1_dis p.wg c cs) (ad2_mute p.wg c cs) rfl (add_v3 c cs)
    (by rw [g4A_1]; exact ad4_mute p.wg c cs) (by rw [g4A_1]; rfl) (ad5_conv p.wg c cs) (ad6_rd p.wg c cs) (ad7_mute p.wg c cs) rfl (ad8_en p.wg c cs) (add_n4 c cs) (add_n8 c cs) he hA hn K
def l2A (P : Program) (wg : Nat) (c : Frame) (cs : List Frame) (tm : Nat → Value) (v : Nat) : Goroutine := wl2 P wg tm c cs (stOf .op v)
def c1A (P : Program) (wg : Nat) (c : Frame) (cs : List Frame) (tm : Nat → Value) (v : Nat) : Goroutine := wc1 P wg tm c cs (stOf .op v)
def c2A (P : Program) (wg : Nat) (c : Frame) (cs : List Frame) (tm : Nat → Value) (v : Nat) (b : Bool) : Goroutine := wc2 P wg tm c cs (stOf .op v) b
theorem wait_vl (tm : Nat → Value) (v : Nat) (h : v ≤ 5) : vst Try.prog (.int .u64 (stOf .op v)) none (wl1 Try.prog p.wg tm c cs) = some ⟨l2A Try.prog p.wg c cs tm v, #[rdE ⟨p.wg, 0, none⟩], [⟨p.wg, 0, none⟩], [], none⟩ := by
  unfold l2A; obtain rfl | rfl | rfl | rfl | rfl | rfl : v = 0 ∨ v = 1 ∨ v = 2 ∨ v = 3 ∨ v = 4 ∨ v = 5 := by omega
  · rw [so_0]; exact wl1_load_0 p.wg tm c cs
  · rw [so_1]; exact wl1_load_1 p.wg tm c cs
  · rw [so_2]; exact wl1_load_2 p.wg tm c cs
  · rw [so_3]; exact wl1_load_3 p.wg tm c cs
  · rw [so_4]; exact wl1_load_4 p.wg tm c cs
  · rw [so_5]; exact wl1_load_5 p.wg tm c cs
theorem wait_zero (tm : Nat → Value) : mute Try.prog 31 (l2A Try.prog p.wg c cs tm 0) = true ∧ ∃ z1' z2 z3 z4, qst Try.prog (adv Try.prog 31 (l2A Try.prog p.wg c cs tm 0)) = some (z1', #[mkE .enable]) ∧ mute Try.prog 3 z1' = true ∧ adv Try.prog 3 z1' = z2 ∧ vst Try.prog undef (some (126, 2)) z2 = some ⟨z3, #[], [], [p.wg, p.wg], none⟩ ∧
      qst Try.prog z3 = some (z4, #[mkE (.acquire ⟨p.wg, 0, none⟩)]) ∧ mute Try.prog 20 z4 = true ∧ adv Try.prog 20 z4 = adR c cs := by
  have e : l2A Try.prog p.wg c cs tm 0 = wl2 Try.prog p.wg tm c cs 0 := by unfold l2A; rw [so_0]
  rw [e]; exact ⟨wz0_mute p.wg tm c cs, _, _, _, _, wz1_en p.wg tm c cs, wz1_mute p.wg tm c cs, rfl, wz2_conv p.wg tm c cs, wz3_acq p.wg tm c cs, wz3_mute p.wg tm c cs, wz3_ret p.wg tm c cs⟩
theorem wait_mc (tm : Nat → Value) (v : Nat) (h1 : 1 ≤ v) (h : v ≤ 5) : mute Try.prog 48 (l2A Try.prog p.wg c cs tm v) = true ∧ adv Try.prog 48 (l2A Try.prog p.wg c cs tm v) = c1A Try.prog p.wg c cs tm v := by
  refine ⟨?_, rfl⟩; unfold l2A; obtain rfl | rfl | rfl | rfl | rfl : v = 1 ∨ v = 2 ∨ v = 3 ∨ v = 4 ∨ v = 5 := by omega
  · rw [so_1]; exact wl2_mute_1 p.wg tm c cs
  · rw [so_2]; exact wl2_mute_2 p.wg tm c cs
  · rw [so_3]; exact wl2_mute_3 p.wg tm c cs
  · rw [so_4]; exact wl2_mute_4 p.wg tm c cs
  · rw [so_5]; exact wl2_mute_5 p.wg tm c cs
theorem wait_miss_1 (tm : Nat → Value) (u : Nat) (h : u < 1) : vst Try.prog (.int .u64 (stOf .op u)) (some (126, 2)) (c1A Try.prog p.wg c cs tm 1) = some ⟨c2A Try.prog p.wg c cs tm 1 false, #[rdE ⟨p.wg, 0, none⟩], [⟨p.wg, 0, none⟩, ⟨p.wg, 0, none⟩], [p.wg], none⟩ := by
  unfold c1A c2A; rw [so_1]; obtain rfl : u = 0 := by omega
  rw [so_0]; exact wc1_miss_1_0 p.wg tm c cs
theorem wait_miss_2 (tm : Nat → Value) (u : Nat) (h : u < 2) : vst Try.prog (.int .u64 (stOf .op u)) (some (126, 2)) (c1A Try.prog p.wg c cs tm 2) = some ⟨c2A Try.prog p.wg c cs tm 2 false, #[rdE ⟨p.wg, 0, none⟩], [⟨p.wg, 0, none⟩, ⟨p.wg, 0, none⟩], [p.wg], none⟩ := by
  unfold c1A c2A; rw [so_2]; obtain rfl | rfl : u = 0 ∨ u = 1 := by omega
  · rw [so_0]; exact wc1_miss_2_0 p.wg tm c cs
  · rw [so_1]; exact wc1_miss_2_1 p.wg tm c cs
theorem wait_miss_3 (tm : Nat → Value) (u : Nat) (h : u < 3) : vst Try.prog (.int .u64 (stOf .op u)) (some (126, 2)) (c1A Try.prog p.wg c cs tm 3) = some ⟨c2A Try.prog p.wg c cs tm 3 false, #[rdE ⟨p.wg, 0, none⟩], [⟨p.wg, 0, none⟩, ⟨p.wg, 0, none⟩], [p.wg], none⟩ := by
  unfold c1A c2A; rw [so_3]; obtain rfl | rfl | rfl : u = 0 ∨ u = 1 ∨ u = 2 := by omega
  · rw [so_0]; exact wc1_miss_3_0 p.wg tm c cs
  · rw [so_1]; exact wc1_miss_3_1 p.wg tm c cs
  · rw [so_2]; exact wc1_miss_3_2 p.wg tm c cs
theorem wait_miss_4 (tm : Nat → Value) (u : Nat) (h : u < 4) : vst Try.prog (.int .u64 (stOf .op u)) (some (126, 2)) (c1A Try.prog p.wg c cs tm 4) = some ⟨c2A Try.prog p.wg c cs tm 4 false, #[rdE ⟨p.wg, 0, none⟩], [⟨p.wg, 0, none⟩, ⟨p.wg, 0, none⟩], [p.wg], none⟩ := by
  unfold c1A c2A; rw [so_4]; obtain rfl | rfl | rfl | rfl : u = 0 ∨ u = 1 ∨ u = 2 ∨ u = 3 := by omega
  · rw [so_0]; exact wc1_miss_4_0 p.wg tm c cs
  · rw [so_1]; exact wc1_miss_4_1 p.wg tm c cs
  · rw [so_2]; exact wc1_miss_4_2 p.wg tm c cs
  · rw [so_3]; exact wc1_miss_4_3 p.wg tm c cs
theorem wait_miss_5 (tm : Nat → Value) (u : Nat) (h : u < 5) : vst Try.prog (.int .u64 (stOf .op u)) (some (126, 2)) (c1A Try.prog p.wg c cs tm 5) = some ⟨c2A Try.prog p.wg c cs tm 5 false, #[rdE ⟨p.wg, 0, none⟩], [⟨p.wg, 0, none⟩, ⟨p.wg, 0, none⟩], [p.wg], none⟩ := by
  unfold c1A c2A; rw [so_5]; obtain rfl | rfl | rfl | rfl | rfl : u = 0 ∨ u = 1 ∨ u = 2 ∨ u = 3 ∨ u = 4 := by omega
  · rw [so_0]; exact wc1_miss_5_0 p.wg tm c cs
  · rw [so_1]; exact wc1_miss_5_1 p.wg tm c cs
  · rw [so_2]; exact wc1_miss_5_2 p.wg tm c cs
  · rw [so_3]; exact wc1_miss_5_3 p.wg tm c cs
  · rw [so_4]; exact wc1_miss_5_4 p.wg tm c cs
theorem wait_miss (tm : Nat → Value) (v u : Nat) (h1 : 1 ≤ v) (h5 : v ≤ 5) (h : u < v) : vst Try.prog (.int .u64 (stOf .op u)) (some (126, 2)) (c1A Try.prog p.wg c cs tm v) = some ⟨c2A Try.prog p.wg c cs tm v false, #[rdE ⟨p.wg, 0, none⟩], [⟨p.wg, 0, none⟩, ⟨p.wg, 0, none⟩], [p.wg], none⟩ := by
  obtain rfl | rfl | rfl | rfl | rfl : v = 1 ∨ v = 2 ∨ v = 3 ∨ v = 4 ∨ v = 5 := by omega
  · exact wait_miss_1 c cs tm u h
  · exact wait_miss_2 c cs tm u h
  · exact wait_miss_3 c cs tm u h
  · exact wait_miss_4 c cs tm u h
  · exact wait_miss_5 c cs tm u h
theorem wait_missed (tm : Nat → Value) (v : Nat) (h1 : 1 ≤ v) (h5 : v ≤ 5) : mute Try.prog 9 (c2A Try.prog p.wg c cs tm v false) = true ∧ ∃ tm', adv Try.prog 9 (c2A Try.prog p.wg c cs tm v false) = wl Try.prog p.wg tm' c cs := by
  unfold c2A; obtain rfl | rfl | rfl | rfl | rfl : v = 1 ∨ v = 2 ∨ v = 3 ∨ v = 4 ∨ v = 5 := by omega
  · rw [so_1]; exact ⟨wc2_miss_1 p.wg tm c cs, _, wc2_head_1 p.wg tm c cs⟩
  · rw [so_2]; exact ⟨wc2_miss_2 p.wg tm c cs, _, wc2_head_2 p.wg tm c cs⟩
  · rw [so_3]; exact ⟨wc2_miss_3 p.wg tm c cs, _, wc2_head_3 p.wg tm c cs⟩
  · rw [so_4]; exact ⟨wc2_miss_4 p.wg tm c cs, _, wc2_head_4 p.wg tm c cs⟩
  · rw [so_5]; exact ⟨wc2_miss_5 p.wg tm c cs, _, wc2_head_5 p.wg tm c cs⟩
theorem wait_hit (tm : Nat → Value) (v : Nat) (h1 : 1 ≤ v) (h5 : v ≤ 5) : vst Try.prog (.int .u64 (stOf .op v)) (some (126, 2)) (c1A Try.prog p.wg c cs tm v) = some ⟨c2A Try.prog p.wg c cs tm v true, #[rdE ⟨p.wg, 0, none⟩, wrE ⟨p.wg, 0, none⟩], [⟨p.wg, 0, none⟩, ⟨p.wg, 0, none⟩, ⟨p.wg, 0, none⟩], [p.wg], some (⟨p.wg, 0, none⟩, .int .u64 (stOf .reg v))⟩ := by
  unfold c1A c2A; obtain rfl | rfl | rfl | rfl | rfl : v = 1 ∨ v = 2 ∨ v = 3 ∨ v = 4 ∨ v = 5 := by omega
  · rw [so_1, sr_1]; exact wc1_hit_1 p.wg tm c cs
  · rw [so_2, sr_2]; exact wc1_hit_2 p.wg tm c cs
  · rw [so_3, sr_3]; exact wc1_hit_3 p.wg tm c cs
  · rw [so_4, sr_4]; exact wc1_hit_4 p.wg tm c cs
  · rw [so_5, sr_5]; exact wc1_hit_5 p.wg tm c cs
theorem opSem_off {P : Program} {v : Value} {g : Goroutine} {l : List Addr} (h : vblock P v g = some l) : g.offers = none := by
  unfold vblock at h
  cases ho : opSem P g with
  | none => rw [ho] at h; cases h
  | some s => exact (oSs ho true default).2.1
theorem off_1 (wg : Nat) (tm : Nat → Value) : (wr3 Try.prog wg tm c cs 4294967296).offers = none := (opSem_off (wr3_block_1 wg tm c cs))
theorem off_2 (wg : Nat) (tm : Nat → Value) : (wr3 Try.prog wg tm c cs 8589934592).offers = none := (opSem_off (wr3_block_2 wg tm c cs))
theorem off_3 (wg : Nat) (tm : Nat → Value) : (wr3 Try.prog wg tm c cs 12884901888).offers = none := (opSem_off (wr3_block_3 wg tm c cs))
theorem off_4 (wg : Nat) (tm : Nat → Value) : (wr3 Try.prog wg tm c cs 17179869184).offers = none := (opSem_off (wr3_block_4 wg tm c cs))
theorem off_5 (wg : Nat) (tm : Nat → Value) : (wr3 Try.prog wg tm c cs 21474836480).offers = none := (opSem_off (wr3_block_5 wg tm c cs))
theorem wait_reg_1 (tm : Nat → Value) (he : p.eW = 126) (hA : AtReg γ p n0) (K : ∀ γ1 w1 γ' w', Mv γ w γ1 w1 → Ans p n0 w1 → RM γ1.idle w1 γ' w' → MP (sys Try.prog) Q false 0 γ' w' (adR c cs)) : MP (sys Try.prog) Q false 1 γ w (wr1 Try.prog p.wg tm c cs 4294967296) :=
  reg_way (wr1_conv_1 p.wg tm c cs) (wr2_wr_1 p.wg tm c cs) (wr2_mute_1 p.wg tm c cs) rfl (wr3_block_1 p.wg tm c cs) (wr3_sem_1 p.wg tm c cs) (off_1 c cs p.wg tm) (wr3_mute_1 p.wg tm c cs) rfl (ww1_load_1 p.wg tm c cs) (ww1_mute_1 p.wg tm c cs) rfl (ww2_en_1 p.wg tm c cs) (ww2_mute_1 p.wg tm c cs) rfl (ww3_conv_1 p.wg tm c cs) (ww4_acq_1 p.wg tm c cs) (ww4_mute_1 p.wg tm c cs) (ww4_ret_1 p.wg tm c cs) he hA K
theorem wait_reg_2 (tm : Nat → Value) (he : p.eW = 126) (hA : AtReg γ p n0) (K : ∀ γ1 w1 γ' w', Mv γ w γ1 w1 → Ans p n0 w1 → RM γ1.idle w1 γ' w' → MP (sys Try.prog) Q false 0 γ' w' (adR c cs)) : MP (sys Try.prog) Q false 1 γ w (wr1 Try.prog p.wg tm c cs 8589934592) :=
  reg_way (wr1_conv_2 p.wg tm c cs) (wr2_wr_2 p.wg tm c cs) (wr2_mute_2 p.wg tm c cs) rfl (wr3_block_2 p.wg tm c cs) (wr3_sem_2 p.wg tm c cs) (off_2 c cs p.wg tm) (wr3_mute_2 p.wg tm c cs) rfl (ww1_load_2 p.wg tm c cs) (ww1_mute_2 p.wg tm c cs) rfl (ww2_en_2 p.wg tm c cs) (ww2_mute_2 p.wg tm c cs) rfl (ww3_conv_2 p.wg tm c cs) (ww4_acq_2 p.wg tm c cs) (ww4_mute_2 p.wg tm c cs) (ww4_ret_2 p.wg tm c cs) he hA K
theorem wait_reg_3 (tm : Nat → Value) (he : p.eW = 126) (hA : AtReg γ p n0) (K : ∀ γ1 w1 γ' w', Mv γ w γ1 w1 → Ans p n0 w1 → RM γ1.idle w1 γ' w' → MP (sys Try.prog) Q false 0 γ' w' (adR c cs)) : MP (sys Try.prog) Q false 1 γ w (wr1 Try.prog p.wg tm c cs 12884901888) :=
  reg_way (wr1_conv_3 p.wg tm c cs) (wr2_wr_3 p.wg tm c cs) (wr2_mute_3 p.wg tm c cs) rfl (wr3_block_3 p.wg tm c cs) (wr3_sem_3 p.wg tm c cs) (off_3 c cs p.wg tm) (wr3_mute_3 p.wg tm c cs) rfl (ww1_load_3 p.wg tm c cs) (ww1_mute_3 p.wg tm c cs) rfl (ww2_en_3 p.wg tm c cs) (ww2_mute_3 p.wg tm c cs) rfl (ww3_conv_3 p.wg tm c cs) (ww4_acq_3 p.wg tm c cs) (ww4_mute_3 p.wg tm c cs) (ww4_ret_3 p.wg tm c cs) he hA K
theorem wait_reg_4 (tm : Nat → Value) (he : p.eW = 126) (hA : AtReg γ p n0) (K : ∀ γ1 w1 γ' w', Mv γ w γ1 w1 → Ans p n0 w1 → RM γ1.idle w1 γ' w' → MP (sys Try.prog) Q false 0 γ' w' (adR c cs)) : MP (sys Try.prog) Q false 1 γ w (wr1 Try.prog p.wg tm c cs 17179869184) :=
  reg_way (wr1_conv_4 p.wg tm c cs) (wr2_wr_4 p.wg tm c cs) (wr2_mute_4 p.wg tm c cs) rfl (wr3_block_4 p.wg tm c cs) (wr3_sem_4 p.wg tm c cs) (off_4 c cs p.wg tm) (wr3_mute_4 p.wg tm c cs) rfl (ww1_load_4 p.wg tm c cs) (ww1_mute_4 p.wg tm c cs) rfl (ww2_en_4 p.wg tm c cs) (ww2_mute_4 p.wg tm c cs) rfl (ww3_conv_4 p.wg tm c cs) (ww4_acq_4 p.wg tm c cs) (ww4_mute_4 p.wg tm c cs) (ww4_ret_4 p.wg tm c cs) he hA K
theorem wait_reg_5 (tm : Nat → Value) (he : p.eW = 126) (hA : AtReg γ p n0) (K : ∀ γ1 w1 γ' w', Mv γ w γ1 w1 → Ans p n0 w1 → RM γ1.idle w1 γ' w' → MP (sys Try.prog) Q false 0 γ' w' (adR c cs)) : MP (sys Try.prog) Q false 1 γ w (wr1 Try.prog p.wg tm c cs 21474836480) :=
  reg_way (wr1_conv_5 p.wg tm c cs) (wr2_wr_5 p.wg tm c cs) (wr2_mute_5 p.wg tm c cs) rfl (wr3_block_5 p.wg tm c cs) (wr3_sem_5 p.wg tm c cs) (off_5 c cs p.wg tm) (wr3_mute_5 p.wg tm c cs) rfl (ww1_load_5 p.wg tm c cs) (ww1_mute_5 p.wg tm c cs) rfl (ww2_en_5 p.wg tm c cs) (ww2_mute_5 p.wg tm c cs) rfl (ww3_conv_5 p.wg tm c cs) (ww4_acq_5 p.wg tm c cs) (ww4_mute_5 p.wg tm c cs) (ww4_ret_5 p.wg tm c cs) he hA K
theorem wait_prog (he : p.eW = 126) (hA : AtOp γ p 0 n0) (K : ∀ γ1 w1 γ' w', Mv γ w γ1 w1 → Ans p n0 w1 → RM γ1.idle w1 γ' w' → MP (sys Try.prog) Q false 0 γ' w' (adR c cs)) : MP (sys Try.prog) Q false 0 γ w (wt0 Try.prog p.wg c cs) := by
  refine wait_way (T := Nat → Value) (wlG := fun tm => wl Try.prog p.wg tm c cs) (l1 := fun tm => wl1 Try.prog p.wg tm c cs) (l2 := l2A Try.prog p.wg c cs) (c1 := c1A Try.prog p.wg c cs) (c2 := c2A Try.prog p.wg c cs) (tm0 := tmOf (wt3 Try.prog p.wg c cs)) (wt0_mute p.wg c cs) rfl (wt1_dis p.wg c cs) (wt2_mute p.wg c cs) (wt3_head p.wg c cs)
    (fun tm => wl_mute p.wg tm c cs) (fun tm => rfl) (wait_vl c cs) (wait_zero c cs) (wait_mc c cs) (wait_miss c cs) (wait_missed c cs) (wait_hit c cs) (fun tm v h1 h5 => ?_) he hA K
  unfold c2A; obtain rfl | rfl | rfl | rfl | rfl : v = 1 ∨ v = 2 ∨ v = 3 ∨ v = 4 ∨ v = 5 := by omega
  · rw [so_1]; exact ⟨wc2_hit_1 p.wg tm c cs, fun γ w hA K => wait_reg_1 c cs tm he hA K⟩
  · rw [so_2]; exact ⟨wc2_hit_2 p.wg tm c cs, fun γ w hA K => wait_reg_2 c cs tm he hA K⟩
  · rw [so_3]; exact ⟨wc2_hit_3 p.wg tm c cs, fun γ w hA K => wait_reg_3 c cs tm he hA K⟩
  · rw [so_4]; exact ⟨wc2_hit_4 p.wg tm c cs, fun γ w hA K => wait_reg_4 c cs tm he hA K⟩
  · rw [so_5]; exact ⟨wc2_hit_5 p.wg tm c cs, fun γ w hA K => wait_reg_5 c cs tm he hA K⟩
end
end Go.Proofs.Ytjklkppncmhehaa.Sr
