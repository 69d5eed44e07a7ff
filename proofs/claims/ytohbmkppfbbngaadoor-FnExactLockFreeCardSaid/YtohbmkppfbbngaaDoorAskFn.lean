/-
  What is proved: the contracts of the function value that impl.LockAsk hands to changeLock: what it makes of the lock behind its pointer, and which error it returns. Condition: the lock is valid and its line is of the call's own.
-/
import Derived.Test.YtohbmkppfbbngaaDoorClone
import Derived.Test.YtohbmkppfbbngaaDoorSpecLock
import Derived.BigQuiet
import Derived.Deep.RegionLaw
import Derived.IntWalk
import Derived.OneCell
namespace Go.Proofs.YtohbmkppfbbngaaDoor
open Go.RowKit

/-- The change succeeded: the lock at b9 is r. -/
def ChangeOk (base b9 : Nat) (W : World) (h f : Int) (zs : List Int) (e : Ending) (W' : World) : Prop :=
  e = .returned .nilIface ∧ ∃ A c, Blk W' b9 25 #[.int .i64 h, .int .i64 f, .slice A zs.length c] ∧ W'.ownsRow base 3 1 (.slice A zs.length c) zs.length (ints zs) ∧ Below base W W'
/-- The change was refused: a new error that says so; nothing has changed. -/
def ChangeNo (W : World) (e : Ending) (W' : World) : Prop :=
  e = .returned (.iface 51 (.pointer (some ⟨W.heap.size, 0, none⟩))) ∧ Blk W' W.heap.size 53 #[.bool false] ∧ Below W.heap.size W W'

set_option maxRecDepth 100000 in
set_option maxHeartbeats 2000000 in
theorem askFn_no (h f who : Int) (A : Option Addr) (n c B b9 bw base : Nat) (zs : List Int) (W : World) (hk : Blk W b9 25 #[.int .i64 h, .int .i64 f, .slice A n c]) (hw : Blk W bw 3 #[.int .i64 who])
    (hr : Reads W B 1 A n (ints zs)) (hn : n ≤ 4) (hf0 : 0 ≤ f) (hf9 : f ≤ 99) (hq : h = who ∨ who ∈ zs ∨ 99 ≤ f + zs.length) :
    Calls Tryd.prog 42 #[.pointer (some ⟨b9, 0, none⟩), .pointer (some ⟨bw, 0, none⟩)] W (ChangeNo W) := by
  have k9 := hk.cell
  have kw := hw.cell
  have hl := hr.len_ints
  have HL := Lib.hid hl
  have HR := Lib.hid hr
  clear hk hw hr hl
  have hwr : IntKind.i64.wrap (f + (n : Int)) = f + (n : Int) := IntWalk.i64_in _ (by omega)
  by_cases hh : h = who
  · have tb : (h == who) = true := by simp [hh]
    clear hh hq hwr
    go_enter Tryd.func42, Tryd.ntmps42
    go_wp2_with (fail)
    go_quiet (fail)
    go_wp2
    go_ret
    exact ⟨rfl, Blk.new _ _ _, (below_drewN (Below.refl _ _) _).alloc (Nat.le_refl _) _⟩
  · have tb : (h == who) = false := by simp [hh]
    by_cases hm : who ∈ zs
    · have HM := Lib.hid hm
      clear hh hq hwr hm
      go_enter Tryd.func42, Tryd.ntmps42
      go_wp2_with (fail)
      go_quiet ((go_at_call 33; exact quiet_left (contains_yes _ _ _ _ _ _ _ (HR.out.drewN _) (by unfold maxLen; omega) HM.out)))
      go_wp2
      go_ret
      exact ⟨rfl, Blk.new _ _ _, (below_drewN (Below.refl _ _) _).alloc (Nat.le_refl _) _⟩
    · have HM := Lib.hid hm
      have hf : 99 ≤ f + n := by
        rcases hq with h1 | h1 | h1
        · exact absurd h1 hh
        · exact absurd h1 hm
        · rw [HL.out] at h1; exact h1
      clear hh hq hm
      go_enter Tryd.func42, Tryd.ntmps42
      go_wp2_with (fail)
      go_quiet ((go_at_call 33; exact quiet_left (contains_no _ _ _ _ _ _ _ (HR.out.drewN _) (by unfold maxLen; omega) HM.out)))
      go_wp2
      go_ret
      exact ⟨rfl, Blk.new _ _ _, (below_drewN (Below.refl _ _) _).alloc (Nat.le_refl _) _⟩

set_option maxRecDepth 100000 in
set_option maxHeartbeats 2000000 in
theorem askFn_free (h f who : Int) (A : Option Addr) (n c B b9 bw base : Nat) (zs : List Int) (W : World) (hk : Blk W b9 25 #[.int .i64 h, .int .i64 f, .slice A n c]) (hw : Blk W bw 3 #[.int .i64 who])
    (hr : Reads W B 1 A n (ints zs)) (hown : W.ownsRow base 3 1 (.slice A n c) n (ints zs)) (hb9 : base ≤ b9) (hn : n ≤ 4) (hf0 : 0 ≤ f) (hf9 : f ≤ 99) (hq : ¬ (h = who ∨ who ∈ zs ∨ 99 ≤ f + zs.length)) (h0 : h = -1) :
    Calls Tryd.prog 42 #[.pointer (some ⟨b9, 0, none⟩), .pointer (some ⟨bw, 0, none⟩)] W (ChangeOk base b9 W who (f + 1) zs) := by
  have k9 := hk.cell
  have f9 := hk.frozen
  have kw := hw.cell
  have hl := hr.len_ints
  have hne9 : (Value.slice A n c).ownBlock ≠ some b9 := own_blk_ne hown hk (by decide)
  have hbw : bw ≠ b9 := hw.ne_ hk (by decide)
  have HL := Lib.hid hl
  have HR := Lib.hid hr
  have HK := Lib.hid hk
  have HO := Lib.hid hown
  clear hk hw hr hl hown
  have hwr : IntKind.i64.wrap (f + (n : Int)) = f + (n : Int) := IntWalk.i64_in _ (by omega)
  have tb : (h == who) = false := by simp; exact fun e => hq (.inl e)
  have HM : Hid (¬ who ∈ zs) := Lib.hid fun e => hq (.inr (.inl e))
  have hf : f + n < 99 := by
    rw [← HL.out]
    have := fun e => hq (.inr (.inr e))
    omega
  have t1 : (h == -1) = true := by simp [h0]
  clear hq h0
  go_enter Tryd.func42, Tryd.ntmps42
  go_wp2_with (fail)
  go_quiet ((go_at_call 33; exact quiet_left (contains_no _ _ _ _ _ _ _ (HR.out.drewN _) (by unfold maxLen; omega) HM.out)))
  go_wp2
  go_ret
  have hlen := HL.out
  subst hlen
  refine ⟨rfl, A, c, ((HK.out.drewN _).set_ 0 _).set_ 1 _, ownsRow_setCell_other (ownsRow_setCell_other (v := .slice A zs.length c) HO.out hne9 _) hne9 _, ((below_drewN (Below.refl _ _) _).setCell hb9 _).setCell hb9 _⟩

set_option maxRecDepth 100000 in
set_option maxHeartbeats 2000000 in
theorem askFn_line (h f who : Int) (A : Option Addr) (n c B b9 bw base : Nat) (zs : List Int) (W : World) (hk : Blk W b9 25 #[.int .i64 h, .int .i64 f, .slice A n c]) (hw : Blk W bw 3 #[.int .i64 who])
    (hr : Reads W B 1 A n (ints zs)) (hown : W.ownsRow base 3 1 (.slice A n c) n (ints zs)) (hb9 : base ≤ b9) (hn : n ≤ 4) (hf0 : 0 ≤ f) (hf9 : f ≤ 99) (hq : ¬ (h = who ∨ who ∈ zs ∨ 99 ≤ f + zs.length)) (h0 : ¬ h = -1) :
    Calls Tryd.prog 42 #[.pointer (some ⟨b9, 0, none⟩), .pointer (some ⟨bw, 0, none⟩)] W (ChangeOk base b9 W h f (zs ++ [who])) := by
  obtain ⟨i0, hi0, hz0', hza, hzb⟩ := info_parts int_info
  have k9 := hk.cell
  have f9 := hk.frozen
  have kw := hw.cell
  have hl := hr.len_ints
  have hlt := hk.lt
  have hne9 : (Value.slice A n c).ownBlock ≠ some b9 := own_blk_ne hown hk (by decide)
  have hcap := own_caps hown
  have HL := Lib.hid hl
  have HR := Lib.hid hr
  have HK := Lib.hid hk
  have HO := Lib.hid hown
  clear hk hw hr hl hown
  have hwr : IntKind.i64.wrap (f + (n : Int)) = f + (n : Int) := IntWalk.i64_in _ (by omega)
  have tb : (h == who) = false := by simp; exact fun e => hq (.inl e)
  have HM : Hid (¬ who ∈ zs) := Lib.hid fun e => hq (.inr (.inl e))
  have hf : f + n < 99 := by
    rw [← HL.out]
    have := fun e => hq (.inr (.inr e))
    omega
  have t1 : (h == -1) = false := by simp [h0]
  clear hq h0
  go_enter Tryd.func42, Tryd.ntmps42
  go_wp2_with (fail)
  go_quiet ((go_at_call 33; exact quiet_left (contains_no _ _ _ _ _ _ _ (HR.out.drewN _) (by unfold maxLen; omega) HM.out)))
  go_wp2_with (fail)
  have HK1 : Hid (Blk (W.drewN nq) b9 25 #[.int .i64 h, .int .i64 f, .slice A n c]) := Lib.hid (HK.out.drewN _)
  have HO1 : Hid ((W.drewN nq).ownsRow base 3 1 (.slice A n c) n (ints zs)) := Lib.hid HO.out
  have HB1 : Hid (Below base W (W.drewN nq)) := Lib.hid (below_drewN (Below.refl _ _) _)
  have q9 : ∀ i : Nat, (W.drewN nq).cell? ⟨b9, i, none⟩ = (#[.int .i64 h, .int .i64 f, .slice A n c] : Array Value)[i]? := HK1.out.cell
  have qw : ∀ i : Nat, (W.drewN nq).cell? ⟨bw, i, none⟩ = (#[.int .i64 who] : Array Value)[i]? := kw
  have hlt1 : b9 < (W.drewN nq).heap.size := hlt
  clear k9 f9 kw hlt HK HO HR
  generalize W.drewN nq = W1 at HK1 HO1 HB1 q9 qw hlt1 ⊢
  go_region_law (first
    | (refine step_append_any _ rfl (.tmp 8) (.tmp 10) _ rfl base 3 i0 _ 1 8 Tryd.underlying23 hi0 hz0' (by assumption) hzb rfl (by omega) (.slice A n c) n (ints zs) rfl
         (by exact World.ownsRow.alloc (World.ownsRow.drew HO1.out) _) (W1.heap.size + 1) (some ⟨W1.heap.size, 0, none⟩) 1 1 (ints [who]) rfl (by exact reads_new W1.drew rfl rfl) ints_one (by unfold maxLen; omega) (by omega) (by simp; omega) ?_
       intro v4 w4 hown4 hg4 hat4
       rw [ints_append] at hown4
       obtain ⟨A4, c4, rfl⟩ := own_slice hown4
       have H64 : Hid (Blk w4 b9 25 #[.int .i64 h, .int .i64 f, .slice A n c]) := Lib.hid (by exact Blk.grown ((HK1.out.alloc (.cells #[.int .i64 who] 3)).drew) hg4 hne9.symm)
       have HB4 : Hid (Below base W w4) := Lib.hid (by exact Below.grown ((HB1.out.alloc (by omega) (.cells #[.int .i64 who] 3)).drew) hg4 (by simp; omega) (fun k hk => (World.ownsRow.lt HO1.out k hk).1))
       have hn64 : (Value.slice A4 (n + 1) c4).ownBlock ≠ some b9 := own_blk_ne hown4 H64.out (by decide)
       have HO4 := Lib.hid hown4
       have k64 := H64.out.cell
       have f64 := H64.out.frozen
       clear hown4 hg4 hat4))
  all_goals
    go_wp2
    go_ret
    have hl4 : (zs ++ [who]).length = n + 1 := by simp [HL.out]
    refine ⟨rfl, A4, c4, ?_, ?_, HB4.out.setCell hb9 _⟩
    · rw [hl4]; exact H64.out.set_ 2 _
    · rw [hl4]; exact ownsRow_setCell_other HO4.out hn64 _
end Go.Proofs.YtohbmkppfbbngaaDoor
