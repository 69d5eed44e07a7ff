/-
What is proved: the visible steps of the starter's Add and Wait, reckoned by the kernel. No condition.
-/
import Derived.Test.YtjklkppncmhehaaSf05
import Derived.Test.YtjklkppncmhehaaSf07
import Derived.Test.YtjklkppncmhehaaSf17
set_option linter.unusedVariables false
set_option linter.unusedSimpArgs false
namespace Go.Proofs.Ytjklkppncmhehaa.Sr
open Go Go.Conc
def semB (P : Program) (v : Value) {α : Type} : Sem α → Option (List Addr)
  | .program k => semB P v (k P)
  | .mark _ k => semB P v k
  | .load _ a k => match semB P v (k v) with
    | some l => some (a :: l)
    | none => none
  | .halt .blocked => some []
  | _ => none
theorem semB_sound {P : Program} {v : Value} {α : Type} {s : Sem α} : ∀ {es : Array Event} {l : List Addr}, semB P v s = some l → ∀ w : World, (∀ a ∈ l, w.cell? a = some v) → ∃ es', s.runT P w es = (.halt .blocked w, es') := by
  induction s with
  | program k ih => intro es l h w; exact ih P h w
  | mark m k ih => intro es l h w; exact ih h w
  | load md a k ih =>
    intro es l h w hl; simp only [semB] at h
    cases hy : semB P v (k v) with
    | none => rw [hy] at h; cases h
    | some l' =>
      rw [hy] at h
      cases h; simp only [Sem.runT, hl a (List.mem_cons_self ..)]; exact ih v hy w fun b hb => hl b (List.mem_cons_of_mem _ hb)
  | halt h0 =>
    intro es l h w _
    cases h0 with
    | blocked => exact ⟨es, rfl⟩
    | _ => cases h
  | _ => intro es l h; cases h
def vblock (P : Program) (v : Value) (g : Goroutine) : Option (List Addr) :=
  match opSem P g with
  | none => none
  | some s => semB P v s
theorem vblock_sound {P : Program} {v : Value} {g : Goroutine} {l : List Addr} (h : vblock P v g = some l) (w : World) (hl : ∀ a ∈ l, w.cell? a = some v) : stepG P true g w = .go { g with status := .blocked } w #[] := by
  unfold vblock at h
  cases ho : opSem P g with
  | none => rw [ho] at h; cases h
  | some s =>
    rw [ho] at h; obtain ⟨es', hs⟩ := semB_sound (es := #[]) h w hl; obtain ⟨h1, h2, h3, h4⟩ := oSs ho true w; have hkb : (g.frame.kind == CallKind.early) = false := by simpa using h3
    rw [h4]; unfold opSem at ho; split at ho
    · simp only [stepG.apply, hs]
      simp [GStep.after, seen]
    · cases ho
section
variable (wg : Nat) (tm : Nat → Value) (c : Frame) (cs : List Frame)
set_option maxRecDepth 100000
theorem ad3_add_0 : vst Try.prog (.int .u64 0) none (ad3 Try.prog wg c cs) = some ⟨ad4 Try.prog wg c cs 4294967296, #[rdE ⟨wg, 0, none⟩, wrE ⟨wg, 0, none⟩], [⟨wg, 0, none⟩, ⟨wg, 0, none⟩], [], some (⟨wg, 0, none⟩, .int .u64 4294967296)⟩ := by kernel_rfl
theorem ad3_add_1 : vst Try.prog (.int .u64 4294967296) none (ad3 Try.prog wg c cs) = some ⟨ad4 Try.prog wg c cs 8589934592, #[rdE ⟨wg, 0, none⟩, wrE ⟨wg, 0, none⟩], [⟨wg, 0, none⟩, ⟨wg, 0, none⟩], [], some (⟨wg, 0, none⟩, .int .u64 8589934592)⟩ := by kernel_rfl
theorem ad3_add_2 : vst Try.prog (.int .u64 8589934592) none (ad3 Try.prog wg c cs) = some ⟨ad4 Try.prog wg c cs 12884901888, #[rdE ⟨wg, 0, none⟩, wrE ⟨wg, 0, none⟩], [⟨wg, 0, none⟩, ⟨wg, 0, none⟩], [], some (⟨wg, 0, none⟩, .int .u64 12884901888)⟩ := by kernel_rfl
theorem ad3_add_3 : vst Try.prog (.int .u64 12884901888) none (ad3 Try.prog wg c cs) = some ⟨ad4 Try.prog wg c cs 17179869184, #[rdE ⟨wg, 0, none⟩, wrE ⟨wg, 0, none⟩], [⟨wg, 0, none⟩, ⟨wg, 0, none⟩], [], some (⟨wg, 0, none⟩, .int .u64 17179869184)⟩ := by kernel_rfl
theorem ad3_add_4 : vst Try.prog (.int .u64 17179869184) none (ad3 Try.prog wg c cs) = some ⟨ad4 Try.prog wg c cs 21474836480, #[rdE ⟨wg, 0, none⟩, wrE ⟨wg, 0, none⟩], [⟨wg, 0, none⟩, ⟨wg, 0, none⟩], [], some (⟨wg, 0, none⟩, .int .u64 21474836480)⟩ := by kernel_rfl
theorem ad5_conv : vst Try.prog undef (some (126, 2)) (ad5 Try.prog wg c cs) = some ⟨ad6 Try.prog wg c cs, #[], [], [wg, wg], none⟩ := by kernel_rfl
theorem wl1_load_0 : vst Try.prog (.int .u64 0) none (wl1 Try.prog wg tm c cs) = some ⟨wl2 Try.prog wg tm c cs 0, #[rdE ⟨wg, 0, none⟩], [⟨wg, 0, none⟩], [], none⟩ := by kernel_rfl
theorem wl1_load_1 : vst Try.prog (.int .u64 4294967296) none (wl1 Try.prog wg tm c cs) = some ⟨wl2 Try.prog wg tm c cs 4294967296, #[rdE ⟨wg, 0, none⟩], [⟨wg, 0, none⟩], [], none⟩ := by kernel_rfl
theorem wl1_load_2 : vst Try.prog (.int .u64 8589934592) none (wl1 Try.prog wg tm c cs) = some ⟨wl2 Try.prog wg tm c cs 8589934592, #[rdE ⟨wg, 0, none⟩], [⟨wg, 0, none⟩], [], none⟩ := by kernel_rfl
theorem wl1_load_3 : vst Try.prog (.int .u64 12884901888) none (wl1 Try.prog wg tm c cs) = some ⟨wl2 Try.prog wg tm c cs 12884901888, #[rdE ⟨wg, 0, none⟩], [⟨wg, 0, none⟩], [], none⟩ := by kernel_rfl
theorem wl1_load_4 : vst Try.prog (.int .u64 17179869184) none (wl1 Try.prog wg tm c cs) = some ⟨wl2 Try.prog wg tm c cs 17179869184, #[rdE ⟨wg, 0, none⟩], [⟨wg, 0, none⟩], [], none⟩ := by kernel_rfl
theorem wl1_load_5 : vst Try.prog (.int .u64 21474836480) none (wl1 Try.prog wg tm c cs) = some ⟨wl2 Try.prog wg tm c cs 21474836480, #[rdE ⟨wg, 0, none⟩], [⟨wg, 0, none⟩], [], none⟩ := by kernel_rfl
theorem wz2_conv : vst Try.prog undef (some (126, 2)) (wz2 Try.prog wg tm c cs) = some ⟨wz3 Try.prog wg tm c cs, #[], [], [wg, wg], none⟩ := by kernel_rfl
theorem wc1_hit_1 : vst Try.prog (.int .u64 4294967296) (some (126, 2)) (wc1 Try.prog wg tm c cs 4294967296) = some ⟨wc2 Try.prog wg tm c cs 4294967296 true, #[rdE ⟨wg, 0, none⟩, wrE ⟨wg, 0, none⟩], [⟨wg, 0, none⟩, ⟨wg, 0, none⟩, ⟨wg, 0, none⟩], [wg], some (⟨wg, 0, none⟩, .int .u64 4294967297)⟩ := by kernel_rfl
theorem wc1_miss_1_0 : vst Try.prog (.int .u64 0) (some (126, 2)) (wc1 Try.prog wg tm c cs 4294967296) = some ⟨wc2 Try.prog wg tm c cs 4294967296 false, #[rdE ⟨wg, 0, none⟩], [⟨wg, 0, none⟩, ⟨wg, 0, none⟩], [wg], none⟩ := by kernel_rfl
theorem wr1_conv_1 : vst Try.prog undef (some (126, 2)) (wr1 Try.prog wg tm c cs 4294967296) = some ⟨wr2 Try.prog wg tm c cs 4294967296, #[], [], [wg, wg], none⟩ := by kernel_rfl
theorem wr3_sem_1 : vst Try.prog (.int .u32 1) none (wr3 Try.prog wg tm c cs 4294967296) = some ⟨onto (wr3 Try.prog wg tm c cs 4294967296) (.tuple #[]), #[mkE .disable, rdE ⟨wg, 1, none⟩, wrE ⟨wg, 1, none⟩, mkE .enable], [⟨wg, 1, none⟩, ⟨wg, 1, none⟩], [], some (⟨wg, 1, none⟩, .int .u32 0)⟩ := by kernel_rfl
theorem wr3_block_1 : vblock Try.prog (.int .u32 0) (wr3 Try.prog wg tm c cs 4294967296) = some [⟨wg, 1, none⟩] := by kernel_rfl
theorem ww1_load_1 : vst Try.prog (.int .u64 0) none (ww1 Try.prog wg tm c cs 4294967296) = some ⟨onto (ww1 Try.prog wg tm c cs 4294967296) (.int .u64 0), #[rdE ⟨wg, 0, none⟩], [⟨wg, 0, none⟩], [], none⟩ := by kernel_rfl
theorem ww3_conv_1 : vst Try.prog undef (some (126, 2)) (ww3 Try.prog wg tm c cs 4294967296) = some ⟨ww4 Try.prog wg tm c cs 4294967296, #[], [], [wg, wg], none⟩ := by kernel_rfl
theorem wc1_hit_2 : vst Try.prog (.int .u64 8589934592) (some (126, 2)) (wc1 Try.prog wg tm c cs 8589934592) = some ⟨wc2 Try.prog wg tm c cs 8589934592 true, #[rdE ⟨wg, 0, none⟩, wrE ⟨wg, 0, none⟩], [⟨wg, 0, none⟩, ⟨wg, 0, none⟩, ⟨wg, 0, none⟩], [wg], some (⟨wg, 0, none⟩, .int .u64 8589934593)⟩ := by kernel_rfl
theorem wc1_miss_2_0 : vst Try.prog (.int .u64 0) (some (126, 2)) (wc1 Try.prog wg tm c cs 8589934592) = some ⟨wc2 Try.prog wg tm c cs 8589934592 false, #[rdE ⟨wg, 0, none⟩], [⟨wg, 0, none⟩, ⟨wg, 0, none⟩], [wg], none⟩ := by kernel_rfl
theorem wc1_miss_2_1 : vst Try.prog (.int .u64 4294967296) (some (126, 2)) (wc1 Try.prog wg tm c cs 8589934592) = some ⟨wc2 Try.prog wg tm c cs 8589934592 false, #[rdE ⟨wg, 0, none⟩], [⟨wg, 0, none⟩, ⟨wg, 0, none⟩], [wg], none⟩ := by kernel_rfl
theorem wr1_conv_2 : vst Try.prog undef (some (126, 2)) (wr1 Try.prog wg tm c cs 8589934592) = some ⟨wr2 Try.prog wg tm c cs 8589934592, #[], [], [wg, wg], none⟩ := by kernel_rfl
theorem wr3_sem_2 : vst Try.prog (.int .u32 1) none (wr3 Try.prog wg tm c cs 8589934592) = some ⟨onto (wr3 Try.prog wg tm c cs 8589934592) (.tuple #[]), #[mkE .disable, rdE ⟨wg, 1, none⟩, wrE ⟨wg, 1, none⟩, mkE .enable], [⟨wg, 1, none⟩, ⟨wg, 1, none⟩], [], some (⟨wg, 1, none⟩, .int .u32 0)⟩ := by kernel_rfl
theorem wr3_block_2 : vblock Try.prog (.int .u32 0) (wr3 Try.prog wg tm c cs 8589934592) = some [⟨wg, 1, none⟩] := by kernel_rfl
theorem ww1_load_2 : vst Try.prog (.int .u64 0) none (ww1 Try.prog wg tm c cs 8589934592) = some ⟨onto (ww1 Try.prog wg tm c cs 8589934592) (.int .u64 0), #[rdE ⟨wg, 0, none⟩], [⟨wg, 0, none⟩], [], none⟩ := by kernel_rfl
theorem ww3_conv_2 : vst Try.prog undef (some (126, 2)) (ww3 Try.prog wg tm c cs 8589934592) = some ⟨ww4 Try.prog wg tm c cs 8589934592, #[], [], [wg, wg], none⟩ := by kernel_rfl
theorem wc1_hit_3 : vst Try.prog (.int .u64 12884901888) (some (126, 2)) (wc1 Try.prog wg tm c cs 12884901888) = some ⟨wc2 Try.prog wg tm c cs 12884901888 true, #[rdE ⟨wg, 0, none⟩, wrE ⟨wg, 0, none⟩], [⟨wg, 0, none⟩, ⟨wg, 0, none⟩, ⟨wg, 0, none⟩], [wg], some (⟨wg, 0, none⟩, .int .u64 12884901889)⟩ := by kernel_rfl
theorem wc1_miss_3_0 : vst Try.prog (.int .u64 0) (some (126, 2)) (wc1 Try.prog wg tm c cs 12884901888) = some ⟨wc2 Try.prog wg tm c cs 12884901888 false, #[rdE ⟨wg, 0, none⟩], [⟨wg, 0, none⟩, ⟨wg, 0, none⟩], [wg], none⟩ := by kernel_rfl
theorem wc1_miss_3_1 : vst Try.prog (.int .u64 4294967296) (some (126, 2)) (wc1 Try.prog wg tm c cs 12884901888) = some ⟨wc2 Try.prog wg tm c cs 12884901888 false, #[rdE ⟨wg, 0, none⟩], [⟨wg, 0, none⟩, ⟨wg, 0, none⟩], [wg], none⟩ := by kernel_rfl
theorem wc1_miss_3_2 : vst Try.prog (.int .u64 8589934592) (some (126, 2)) (wc1 Try.prog wg tm c cs 12884901888) = some ⟨wc2 Try.prog wg tm c cs 12884901888 false, #[rdE ⟨wg, 0, none⟩], [⟨wg, 0, none⟩, ⟨wg, 0, none⟩], [wg], none⟩ := by kernel_rfl
theorem wr1_conv_3 : vst Try.prog undef (some (126, 2)) (wr1 Try.prog wg tm c cs 12884901888) = some ⟨wr2 Try.prog wg tm c cs 12884901888, #[], [], [wg, wg], none⟩ := by kernel_rfl
theorem wr3_sem_3 : vst Try.prog (.int .u32 1) none (wr3 Try.prog wg tm c cs 12884901888) = some ⟨onto (wr3 Try.prog wg tm c cs 12884901888) (.tuple #[]), #[mkE .disable, rdE ⟨wg, 1, none⟩, wrE ⟨wg, 1, none⟩, mkE .enable], [⟨wg, 1, none⟩, ⟨wg, 1, none⟩], [], some (⟨wg, 1, none⟩, .int .u32 0)⟩ := by kernel_rfl
theorem wr3_block_3 : vblock Try.prog (.int .u32 0) (wr3 Try.prog wg tm c cs 12884901888) = some [⟨wg, 1, none⟩] := by kernel_rfl
theorem ww1_load_3 : vst Try.prog (.int .u64 0) none (ww1 Try.prog wg tm c cs 12884901888) = some ⟨onto (ww1 Try.prog wg tm c cs 12884901888) (.int .u64 0), #[rdE ⟨wg, 0, none⟩], [⟨wg, 0, none⟩], [], none⟩ := by kernel_rfl
theorem ww3_conv_3 : vst Try.prog undef (some (126, 2)) (ww3 Try.prog wg tm c cs 12884901888) = some ⟨ww4 Try.prog wg tm c cs 12884901888, #[], [], [wg, wg], none⟩ := by kernel_rfl
theorem wc1_hit_4 : vst Try.prog (.int .u64 17179869184) (some (126, 2)) (wc1 Try.prog wg tm c cs 17179869184) = some ⟨wc2 Try.prog wg tm c cs 17179869184 true, #[rdE ⟨wg, 0, none⟩, wrE ⟨wg, 0, none⟩], [⟨wg, 0, none⟩, ⟨wg, 0, none⟩, ⟨wg, 0, none⟩], [wg], some (⟨wg, 0, none⟩, .int .u64 17179869185)⟩ := by kernel_rfl
theorem wc1_miss_4_0 : vst Try.prog (.int .u64 0) (some (126, 2)) (wc1 Try.prog wg tm c cs 17179869184) = some ⟨wc2 Try.prog wg tm c cs 17179869184 false, #[rdE ⟨wg, 0, none⟩], [⟨wg, 0, none⟩, ⟨wg, 0, none⟩], [wg], none⟩ := by kernel_rfl
theorem wc1_miss_4_1 : vst Try.prog (.int .u64 4294967296) (some (126, 2)) (wc1 Try.prog wg tm c cs 17179869184) = some ⟨wc2 Try.prog wg tm c cs 17179869184 false, #[rdE ⟨wg, 0, none⟩], [⟨wg, 0, none⟩, ⟨wg, 0, none⟩], [wg], none⟩ := by kernel_rfl
theorem wc1_miss_4_2 : vst Try.prog (.int .u64 8589934592) (some (126, 2)) (wc1 Try.prog wg tm c cs 17179869184) = some ⟨wc2 Try.prog wg tm c cs 17179869184 false, #[rdE ⟨wg, 0, none⟩], [⟨wg, 0, none⟩, ⟨wg, 0, none⟩], [wg], none⟩ := by kernel_rfl
theorem wc1_miss_4_3 : vst Try.prog (.int .u64 12884901888) (some (126, 2)) (wc1 Try.prog wg tm c cs 17179869184) = some ⟨wc2 Try.prog wg tm c cs 17179869184 false, #[rdE ⟨wg, 0, none⟩], [⟨wg, 0, none⟩, ⟨wg, 0, none⟩], [wg], none⟩ := by kernel_rfl
theorem wr1_conv_4 : vst Try.prog undef (some (126, 2)) (wr1 Try.prog wg tm c cs 17179869184) = some ⟨wr2 Try.prog wg tm c cs 17179869184, #[], [], [wg, wg], none⟩ := by kernel_rfl
theorem wr3_sem_4 : vst Try.prog (.int .u32 1) none (wr3 Try.prog wg tm c cs 17179869184) = some ⟨onto (wr3 Try.prog wg tm c cs 17179869184) (.tuple #[]), #[mkE .disable, rdE ⟨wg, 1, none⟩, wrE ⟨wg, 1, none⟩, mkE .enable], [⟨wg, 1, none⟩, ⟨wg, 1, none⟩], [], some (⟨wg, 1, none⟩, .int .u32 0)⟩ := by kernel_rfl
theorem wr3_block_4 : vblock Try.prog (.int .u32 0) (wr3 Try.prog wg tm c cs 17179869184) = some [⟨wg, 1, none⟩] := by kernel_rfl
theorem ww1_load_4 : vst Try.prog (.int .u64 0) none (ww1 Try.prog wg tm c cs 17179869184) = some ⟨onto (ww1 Try.prog wg tm c cs 17179869184) (.int .u64 0), #[rdE ⟨wg, 0, none⟩], [⟨wg, 0, none⟩], [], none⟩ := by kernel_rfl
theorem ww3_conv_4 : vst Try.prog undef (some (126, 2)) (ww3 Try.prog wg tm c cs 17179869184) = some ⟨ww4 Try.prog wg tm c cs 17179869184, #[], [], [wg, wg], none⟩ := by kernel_rfl
theorem wc1_hit_5 : vst Try.prog (.int .u64 21474836480) (some (126, 2)) (wc1 Try.prog wg tm c cs 21474836480) = some ⟨wc2 Try.prog wg tm c cs 21474836480 true, #[rdE ⟨wg, 0, none⟩, wrE ⟨wg, 0, none⟩], [⟨wg, 0, none⟩, ⟨wg, 0, none⟩, ⟨wg, 0, none⟩], [wg], some (⟨wg, 0, none⟩, .int .u64 21474836481)⟩ := by kernel_rfl
theorem wc1_miss_5_0 : vst Try.prog (.int .u64 0) (some (126, 2)) (wc1 Try.prog wg tm c cs 21474836480) = some ⟨wc2 Try.prog wg tm c cs 21474836480 false, #[rdE ⟨wg, 0, none⟩], [⟨wg, 0, none⟩, ⟨wg, 0, none⟩], [wg], none⟩ := by kernel_rfl
theorem wc1_miss_5_1 : vst Try.prog (.int .u64 4294967296) (some (126, 2)) (wc1 Try.prog wg tm c cs 21474836480) = some ⟨wc2 Try.prog wg tm c cs 21474836480 false, #[rdE ⟨wg, 0, none⟩], [⟨wg, 0, none⟩, ⟨wg, 0, none⟩], [wg], none⟩ := by kernel_rfl
theorem wc1_miss_5_2 : vst Try.prog (.int .u64 8589934592) (some (126, 2)) (wc1 Try.prog wg tm c cs 21474836480) = some ⟨wc2 Try.prog wg tm c cs 21474836480 false, #[rdE ⟨wg, 0, none⟩], [⟨wg, 0, none⟩, ⟨wg, 0, none⟩], [wg], none⟩ := by kernel_rfl
theorem wc1_miss_5_3 : vst Try.prog (.int .u64 12884901888) (some (126, 2)) (wc1 Try.prog wg tm c cs 21474836480) = some ⟨wc2 Try.prog wg tm c cs 21474836480 false, #[rdE ⟨wg, 0, none⟩], [⟨wg, 0, none⟩, ⟨wg, 0, none⟩], [wg], none⟩ := by kernel_rfl
theorem wc1_miss_5_4 : vst Try.prog (.int .u64 17179869184) (some (126, 2)) (wc1 Try.prog wg tm c cs 21474836480) = some ⟨wc2 Try.prog wg tm c cs 21474836480 false, #[rdE ⟨wg, 0, none⟩], [⟨wg, 0, none⟩, ⟨wg, 0, none⟩], [wg], none⟩ := by kernel_rfl
theorem wr1_conv_5 : vst Try.prog undef (some (126, 2)) (wr1 Try.prog wg tm c cs 21474836480) = some ⟨wr2 Try.prog wg tm c cs 21474836480, #[], [], [wg, wg], none⟩ := by kernel_rfl
theorem wr3_sem_5 : vst Try.prog (.int .u32 1) none (wr3 Try.prog wg tm c cs 21474836480) = some ⟨onto (wr3 Try.prog wg tm c cs 21474836480) (.tuple #[]), #[mkE .disable, rdE ⟨wg, 1, none⟩, wrE ⟨wg, 1, none⟩, mkE .enable], [⟨wg, 1, none⟩, ⟨wg, 1, none⟩], [], some (⟨wg, 1, none⟩, .int .u32 0)⟩ := by kernel_rfl
theorem wr3_block_5 : vblock Try.prog (.int .u32 0) (wr3 Try.prog wg tm c cs 21474836480) = some [⟨wg, 1, none⟩] := by kernel_rfl
theorem ww1_load_5 : vst Try.prog (.int .u64 0) none (ww1 Try.prog wg tm c cs 21474836480) = some ⟨onto (ww1 Try.prog wg tm c cs 21474836480) (.int .u64 0), #[rdE ⟨wg, 0, none⟩], [⟨wg, 0, none⟩], [], none⟩ := by kernel_rfl
theorem ww3_conv_5 : vst Try.prog undef (some (126, 2)) (ww3 Try.prog wg tm c cs 21474836480) = some ⟨ww4 Try.prog wg tm c cs 21474836480, #[], [], [wg, wg], none⟩ := by kernel_rfl
end
end Go.Proofs.Ytjklkppncmhehaa.Sr
