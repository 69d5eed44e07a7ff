/-
  What is proved: the contracts of spec.l33Copy, spec.LockAsk and spec.LockFree: what lock each returns, in memory of its own, and whether it succeeds. Condition: the line reads as a list (of l33Copy: of at most four numbers).
-/
import Derived.Test.YtohbmkppfbbngaaDoorPlace
import Derived.Deep.RegionWith
import Derived.OneCell
namespace Go.Proofs.YtohbmkppfbbngaaDoor
open Go.RowKit

/-- What LockAsk gives: the lock's three parts, and whether it succeeds. -/
def askP (h f : Int) (zs : List Int) (who : Int) : (Int × Int × List Int) × Bool :=
  if lvB h f zs = true ∧ 0 ≤ who ∧ who ≤ 3 then
    if h = who ∨ who ∈ zs ∨ 99 ≤ f + zs.length then ((h, f, zs), false)
    else if 0 ≤ h then ((h, f, zs ++ [who]), true) else ((who, f + 1, zs), true)
  else ((0, 0, []), false)
/-- What LockFree gives. -/
def freeP (h f : Int) (zs : List Int) (who : Int) : (Int × Int × List Int) × Bool :=
  if lvB h f zs = true ∧ 0 ≤ who ∧ who ≤ 3 then
    if h = who then (if zs ≠ [] ∧ f < 99 then ((zs.headD 0, f + 1, zs.tail), true) else ((-1, f, zs), true))
    else ((h, f, zs.filter (· ≠ who)), decide ((zs.filter (· ≠ who)).length < zs.length))
  else ((0, 0, []), false)

/-- A result that is a lock, its line of the call's own, and a Bool. -/
def RetLockOk (base : Nat) (r : (Int × Int × List Int) × Bool) (ev : Ending) (w' : World) : Prop :=
  ∃ A n c, ev = .returned (.tuple #[.agg #[.int .i64 r.1.1, .int .i64 r.1.2.1, .slice A n c], .bool r.2]) ∧ w'.ownsRow base 3 1 (.slice A n c) n (ints r.1.2.2)

set_option maxRecDepth 100000 in
set_option maxHeartbeats 1000000 in
theorem l33Copy_any (h f : Int) (A : Option Addr) (n c B : Nat) (zs : List Int) (w : World) (hr : Reads w B 1 A n (ints zs)) (hB : B ≤ w.heap.size) (hn : n ≤ 4) :
    Calls Tryd.prog 40 #[.agg #[.int .i64 h, .int .i64 f, .slice A n c]] w fun e w' => RetLock w.heap.size h f zs e w' ∧ Below w.heap.size w w' := by
  obtain ⟨i0, hi0, hz0, hz1, hz2⟩ := info_parts int_info
  have HR := Lib.hid hr
  clear hr
  go_enter Tryd.func40, Tryd.ntmps40
  have HO1 : Hid ((((w.alloc (.cells #[.int .i64 h, .int .i64 f, .slice A n c] 25)).alloc (.cells #[.int .i64 0, .int .i64 0, .slice none 0 0] 25)).alloc (.cells #[] 3)).ownsRow w.heap.size 3 1 (.slice (some ⟨w.heap.size + 1 + 1, 0, none⟩) 0 0) 0 (ints [])) :=
    Lib.hid (own_lit _ (by simp) (by omega) rfl (by unfold maxLen; omega))
  go_wp2_with (at_builtin
               refine wpList_append_any _ rfl (.tmp 3) (.tmp 5) _ rfl w.heap.size 3 i0 _ 1 8 Tryd.underlying23 hi0 hz0 (by assumption) hz2 rfl (by omega) (.slice (some ⟨w.heap.size + 1 + 1, 0, none⟩) 0 0) 0 (ints []) rfl
                 HO1.out B A n c (ints zs) rfl (((HR.out.alloc hB _).alloc (by simp; omega) _).alloc (by simp; omega) _) ints_one (by unfold maxLen; omega) (by omega) (by simp; omega) ?_
               intro v2 w2 hown2 hg2 hat2
               rw [Nat.zero_add, show ints [] ++ ints zs = ints zs from rfl] at hown2
               obtain ⟨A2, c2, rfl⟩ := own_slice hown2
               have HK2 := Lib.hid ((((Blk.new w 25 #[.int .i64 h, .int .i64 f, .slice A n c]).alloc (.cells #[.int .i64 0, .int .i64 0, .slice none 0 0] 25)).alloc (.cells #[] 3)).grown hg2 (by simp [Value.ownBlock]; omega))
               have HX2 := Lib.hid (((Blk.new' (g := w.heap.size + 1) (w.alloc (.cells #[.int .i64 h, .int .i64 f, .slice A n c] 25)) 25 #[.int .i64 0, .int .i64 0, .slice none 0 0] (by simp)).alloc (.cells #[] 3)).grown hg2 (by simp [Value.ownBlock]))
               have HB2 : Hid (Below w.heap.size w w2) := Lib.hid (((((Below.refl _ _).alloc (Nat.le_refl _) _).alloc (by simp) _).alloc (by simp; omega) _).grown hg2 (by simp; omega) (by simp [Value.ownBlock]; omega))
               have hne : (Value.slice A2 n c2).ownBlock ≠ some w.heap.size := own_blk_ne hown2 HK2.out (by decide)
               have hne' : (Value.slice A2 n c2).ownBlock ≠ some (w.heap.size + 1) := own_blk_ne hown2 HX2.out (by decide)
               have HO2 := Lib.hid hown2
               have k2 := HK2.out.cell
               have f2 := HK2.out.frozen
               have x2 := HX2.out.cell
               have y2 := HX2.out.frozen
               clear hown2 hg2 hat2)
  refine bodyPost_ret (v := .agg #[.int .i64 h, .int .i64 f, .slice A2 n c2]) (by simp [results, Tryd.results40, go_sem, x2]) rfl ⟨⟨A2, n, c2, rfl, ?_⟩, ?_⟩
  · exact ownsRow_setCell_other (ownsRow_setCell_other (ownsRow_setCell_other (ownsRow_setCell_other HO2.out hne _) hne' _) hne' _) hne' _
  · exact (((HB2.out.setCell (Nat.le_refl _) _).setCell (by simp) _).setCell (by simp) _).setCell (by simp) _


theorem ask_bad {h f who : Int} {zs : List Int} (hb : ¬ (lvB h f zs = true ∧ 0 ≤ who ∧ who ≤ 3)) : askP h f zs who = ((0, 0, []), false) := by unfold askP; rw [if_neg hb]
theorem ask_no {h f who : Int} {zs : List Int} (hv : lvB h f zs = true) (hw : 0 ≤ who ∧ who ≤ 3) (hb : h = who ∨ who ∈ zs ∨ 99 ≤ f + zs.length) : askP h f zs who = ((h, f, zs), false) := by
  unfold askP; rw [if_pos ⟨hv, hw⟩, if_pos hb]
theorem ask_line {h f who : Int} {zs : List Int} (hv : lvB h f zs = true) (hw : 0 ≤ who ∧ who ≤ 3) (hb : ¬ (h = who ∨ who ∈ zs ∨ 99 ≤ f + zs.length)) (h0 : 0 ≤ h) : askP h f zs who = ((h, f, zs ++ [who]), true) := by
  unfold askP; rw [if_pos ⟨hv, hw⟩, if_neg hb, if_pos h0]
theorem ask_free {h f who : Int} {zs : List Int} (hv : lvB h f zs = true) (hw : 0 ≤ who ∧ who ≤ 3) (hb : ¬ (h = who ∨ who ∈ zs ∨ 99 ≤ f + zs.length)) (h0 : ¬ 0 ≤ h) : askP h f zs who = ((who, f + 1, zs), true) := by
  unfold askP; rw [if_pos ⟨hv, hw⟩, if_neg hb, if_neg h0]
theorem lvB_nums {h f : Int} {zs : List Int} (hv : lvB h f zs = true) : -1 ≤ h ∧ h ≤ 3 ∧ 0 ≤ f ∧ f ≤ 99 := by
  have := lvB_LV hv
  exact ⟨this.1, this.2.1, this.2.2.1, this.2.2.2.1⟩

set_option maxRecDepth 100000 in
set_option maxHeartbeats 1000000 in
theorem specAsk_bad (h f who : Int) (A : Option Addr) (n c B : Nat) (zs : List Int) (w : World) (hr : Reads w B 1 A n (ints zs)) (hB : B ≤ w.heap.size) (hn : n ≤ c) (hc : c ≤ maxLen)
    (hb : ¬ (lvB h f zs = true ∧ 0 ≤ who ∧ who ≤ 3)) :
    Calls Tryd.prog 18 #[.agg #[.int .i64 h, .int .i64 f, .slice A n c], .int .i64 who] w fun e w' => RetLockOk w.heap.size (askP h f zs who) e w' ∧ Below w.heap.size w w' := by
  have HP : Hid (askP h f zs who = ((0, 0, []), false)) := Lib.hid (ask_bad hb)
  have HR := Lib.hid hr
  have HQ := Lib.hid hb
  clear hr hb
  cases hv : lvB h f zs
  all_goals
    try have tw : inB who 0 3 = false := inB_no fun hw => HQ.out ⟨hv, hw⟩
    go_enter Tryd.func18, Tryd.ntmps18
    go_wp2_with (fail)
    refine (specValid_any h f A n c B zs _ ((HR.out.alloc hB _).alloc (by simp; omega) _) (by simp; omega) hn hc).mono ?_
    rintro e w1 ⟨rfl, hb1⟩
    have HB1 : Hid (Below w.heap.size w w1) := Lib.hid ((((Below.refl _ _).alloc (Nat.le_refl _) _).alloc (by simp) _).trans (hb1.mono (by simp; omega)))
    have HX1 := Lib.hid ((Blk.new' (g := w.heap.size + 1) (w.alloc (.cells #[.int .i64 h, .int .i64 f, .slice A n c] 25)) 25 #[.int .i64 0, .int .i64 0, .slice none 0 0] (by simp)).below hb1 (by simp))
    have x1 := HX1.out.cell
    have y1 := HX1.out.frozen
    clear hb1
    go_wp2_with (go_at_call 34; refine (l6In_any _ _ _ _).mono ?_; rintro e w' ⟨rfl, rfl⟩)
    refine bodyPost_ret (v := .tuple #[.agg #[.int .i64 0, .int .i64 0, .slice none 0 0], .bool false]) (by simp [results, Tryd.results18, go_sem, x1]) rfl ⟨?_, ?_⟩
    · rw [HP.out]
      exact ⟨none, 0, 0, rfl, World.ownsRow_nil _ _ _ _⟩
    · exact ((HB1.out.setCell (by simp) _).setCell (by simp) _).setCell (by simp) _

set_option maxRecDepth 100000 in
set_option maxHeartbeats 2000000 in
theorem specAsk_good (h f who : Int) (A : Option Addr) (n c B : Nat) (zs : List Int) (w : World) (hr : Reads w B 1 A n (ints zs)) (hB : B ≤ w.heap.size) (hn : n ≤ c) (hc : c ≤ maxLen)
    (hv : lvB h f zs = true) (hw : 0 ≤ who ∧ who ≤ 3) :
    Calls Tryd.prog 18 #[.agg #[.int .i64 h, .int .i64 f, .slice A n c], .int .i64 who] w fun e w' => RetLockOk w.heap.size (askP h f zs who) e w' ∧ Below w.heap.size w w' := by
  have hl := hr.len_ints
  have hn4 : n ≤ 4 := by rw [← hl]; exact lvB_len hv
  have hnum := lvB_nums hv
  have tw : inB who 0 3 = true := inB_yes hw
  obtain ⟨i0, hi0, hz0, hza, hzb⟩ := info_parts int_info
  have HL := Lib.hid hl
  have HR := Lib.hid hr
  clear hr hl
  go_enter Tryd.func18, Tryd.ntmps18
  go_wp2_with (fail)
  refine (specValid_any h f A n c B zs _ ((HR.out.alloc hB _).alloc (by simp; omega) _) (by simp; omega) hn hc).mono ?_
  rintro e w1 ⟨rfl, hb1⟩
  have HB1 : Hid (Below w.heap.size w w1) := Lib.hid ((((Below.refl _ _).alloc (Nat.le_refl _) _).alloc (by simp) _).trans (hb1.mono (by simp; omega)))
  have HX1 := Lib.hid ((Blk.new' (g := w.heap.size + 1) (w.alloc (.cells #[.int .i64 h, .int .i64 f, .slice A n c] 25)) 25 #[.int .i64 0, .int .i64 0, .slice none 0 0] (by simp)).below hb1 (by simp))
  have HK1 := Lib.hid (((Blk.new w 25 #[.int .i64 h, .int .i64 f, .slice A n c]).alloc (.cells #[.int .i64 0, .int .i64 0, .slice none 0 0] 25)).below hb1 (by simp; omega))
  have HR1 := Lib.hid (((HR.out.alloc hB (.cells #[.int .i64 h, .int .i64 f, .slice A n c] 25)).alloc (by simp; omega) (.cells #[.int .i64 0, .int .i64 0, .slice none 0 0] 25)).below (hb1.mono (by simp; omega)))
  have k1 := HK1.out.cell
  have hz1 := HX1.out.lt
  clear hb1
  go_wp2_with (go_at_call 34; refine (l6In_any _ _ _ _).mono ?_; rintro e w' ⟨rfl, rfl⟩)
  refine (l33Copy_any h f A n c B zs _ HR1.out (by omega) hn4).mono ?_
  rintro e w2 ⟨⟨A2, n2, c2, rfl, hown2⟩, hb2⟩
  have hn2 : n2 = n := by
    have h1 := (Reads.of_own hown2).len_ints
    have := HL.out
    omega
  subst hn2
  have HB2 : Hid (Below w.heap.size w w2) := Lib.hid (HB1.out.trans (hb2.mono (by omega)))
  have HX2 := Lib.hid (HX1.out.below hb2 (by omega))
  have HK2 := Lib.hid (HK1.out.below hb2 (by omega))
  have HR2 := Lib.hid (HR1.out.below (hb2.mono (by omega)))
  have HO2 := Lib.hid (own_mono hown2 (Nat.le_trans (Nat.le_add_right w.heap.size 1) (by omega) : w.heap.size ≤ _))
  have hcap := own_caps hown2
  have k2 := HK2.out.cell
  have x2 := HX2.out.cell
  have y2 := HX2.out.frozen
  have hz2 := HX2.out.lt
  clear hb2 hown2 k1 HB1 HX1 HK1 HR1
  have hz3 : w.heap.size < w2.heap.size := by omega
  have hne' : (Value.slice A2 n2 c2).ownBlock ≠ some (w.heap.size + 1) := own_blk_ne HO2.out HX2.out (by decide)
  have hlt6 : (Value.slice A2 n2 c2).ownBlock ≠ some w2.heap.size := by intro e; have := (World.ownsRow.lt HO2.out _ e).2; omega
  by_cases hq : h = who ∨ who ∈ zs ∨ 99 ≤ f + zs.length
  · have HP : Hid (askP h f zs who = ((h, f, zs), false)) := Lib.hid (ask_no hv hw hq)
    by_cases hh : h = who
    · have tb : (h == who) = true := by simp [hh]
      clear hh hq
      go_wp2
      refine bodyPost_ret (v := .tuple #[.agg #[.int .i64 h, .int .i64 f, .slice A2 n2 c2], .bool false]) (by simp [results, Tryd.results18, go_sem, x2, hz2]) rfl ⟨?_, ?_⟩
      · rw [HP.out]
        refine ⟨A2, n2, c2, rfl, ?_⟩
        repeat (first | with_reducible refine World.ownsRow.alloc ?_ _ | with_reducible refine ownsRow_setCell_other ?_ hne' _ | with_reducible exact HO2.out)
      · repeat (first | with_reducible refine Below.alloc ?_ (by first | omega | (simp; omega)) _ | with_reducible refine Below.setCell ?_ (by first | omega | (simp; done) | (simp; omega)) _ | with_reducible exact HB2.out)
    · have tb : (h == who) = false := by simp [hh]
      by_cases hm : who ∈ zs
      · have HM := Lib.hid hm
        clear hm hq hh
        go_wp2_with (go_at_call 35; refine (l1Has_yes _ _ _ _ _ _ _ (by exact HR2.out.alloc (by omega) _) (by omega) HM.out).mono ?_; rintro e w' ⟨rfl, rfl⟩)
        refine bodyPost_ret (v := .tuple #[.agg #[.int .i64 h, .int .i64 f, .slice A2 n2 c2], .bool false]) (by simp [results, Tryd.results18, go_sem, x2, hz2]) rfl ⟨?_, ?_⟩
        · rw [HP.out]
          refine ⟨A2, n2, c2, rfl, ?_⟩
          repeat (first | with_reducible refine World.ownsRow.alloc ?_ _ | with_reducible refine ownsRow_setCell_other ?_ hne' _ | with_reducible exact HO2.out)
        · repeat (first | with_reducible refine Below.alloc ?_ (by first | omega | (simp; omega)) _ | with_reducible refine Below.setCell ?_ (by first | omega | (simp; done) | (simp; omega)) _ | with_reducible exact HB2.out)
      · have HM := Lib.hid hm
        have hf : 99 ≤ f + n2 := by rcases hq with h1 | h1 | h1; exact absurd h1 hh; exact absurd h1 hm; rw [HL.out] at h1; exact h1
        clear hm hq hh
        go_wp2_with (go_at_call 35; refine (l1Has_no _ _ _ _ _ _ _ (by exact HR2.out.alloc (by omega) _) (by omega) HM.out).mono ?_; rintro e w' ⟨rfl, rfl⟩)
        refine bodyPost_ret (v := .tuple #[.agg #[.int .i64 h, .int .i64 f, .slice A2 n2 c2], .bool false]) (by simp [results, Tryd.results18, go_sem, x2, hz2]) rfl ⟨?_, ?_⟩
        · rw [HP.out]
          refine ⟨A2, n2, c2, rfl, ?_⟩
          repeat (first | with_reducible refine World.ownsRow.alloc ?_ _ | with_reducible refine ownsRow_setCell_other ?_ hne' _ | with_reducible exact HO2.out)
        · repeat (first | with_reducible refine Below.alloc ?_ (by first | omega | (simp; omega)) _ | with_reducible refine Below.setCell ?_ (by first | omega | (simp; done) | (simp; omega)) _ | with_reducible exact HB2.out)
  · have tb : (h == who) = false := by simp; exact fun e => hq (.inl e)
    have HM : Hid (¬ who ∈ zs) := Lib.hid fun e => hq (.inr (.inl e))
    have hf : f + n2 < 99 := by
      rw [← HL.out]
      have := fun e => hq (.inr (.inr e))
      omega
    by_cases h0 : 0 ≤ h
    · have HP : Hid (askP h f zs who = ((h, f, zs ++ [who]), true)) := Lib.hid (ask_line hv hw hq h0)
      clear hq
      go_wp2_with (first
        | (go_at_call 35; refine (l1Has_no _ _ _ _ _ _ _ (by exact HR2.out.alloc (by omega) _) (by omega) HM.out).mono ?_; rintro e w' ⟨rfl, rfl⟩)
        | (at_builtin
           refine wpList_append_any _ rfl (.tmp 42) (.tmp 44) _ rfl w.heap.size 3 i0 _ 1 8 Tryd.underlying23 hi0 hz0 (by assumption) hzb rfl (by omega) (.slice A2 n2 c2) n2 (ints zs) rfl
             (by exact World.ownsRow.alloc (World.ownsRow.alloc HO2.out _) _) (w2.heap.size + 1 + 1) (some ⟨w2.heap.size + 1, 0, none⟩) 1 1 (ints [who]) rfl (by exact reads_new _ (by simp) rfl) ints_one (by unfold maxLen; omega) (by omega) (by simp; omega) ?_
           intro v3 w3 hown3 hg3 hat3
           rw [ints_append] at hown3
           obtain ⟨A3, c3, rfl⟩ := own_slice hown3
           have HX3 := Lib.hid (((HX2.out.alloc (.cells #[.int .i64 h, .int .i64 f, .slice A2 n2 c2] 25)).alloc (.cells #[.int .i64 who] 3)).grown hg3 hne'.symm)
           have HK3 := Lib.hid (((Blk.new w2 25 #[.int .i64 h, .int .i64 f, .slice A2 n2 c2]).alloc (.cells #[.int .i64 who] 3)).grown hg3 hlt6.symm)
           have HB3 : Hid (Below w.heap.size w w3) := Lib.hid (((HB2.out.alloc (by omega) _).alloc (by simp; omega) _).grown hg3 (by simp; omega) (fun k hk => (World.ownsRow.lt HO2.out k hk).1))
           have hne3 : (Value.slice A3 (n2 + 1) c3).ownBlock ≠ some (w.heap.size + 1) := own_blk_ne hown3 HX3.out (by decide)
           have hne4 : (Value.slice A3 (n2 + 1) c3).ownBlock ≠ some w2.heap.size := own_blk_ne hown3 HK3.out (by decide)
           have HO3 := Lib.hid hown3
           have x3 := HX3.out.cell
           have y3 := HX3.out.frozen
           have k3 := HK3.out.cell
           have f3 := HK3.out.frozen
           clear hown3 hg3 hat3))
      refine bodyPost_ret (v := .tuple #[.agg #[.int .i64 h, .int .i64 f, .slice A3 (n2 + 1) c3], .bool true]) (by simp [results, Tryd.results18, go_sem, x3]) rfl ⟨?_, ?_⟩
      · rw [HP.out]
        refine ⟨A3, n2 + 1, c3, rfl, ?_⟩
        repeat (first | with_reducible refine World.ownsRow.alloc ?_ _ | with_reducible refine ownsRow_setCell_other ?_ hne3 _ | with_reducible refine ownsRow_setCell_other ?_ hne4 _ | with_reducible exact HO3.out)
      · repeat (first | with_reducible refine Below.alloc ?_ (by first | omega | (simp; omega)) _ | with_reducible refine Below.setCell ?_ (by first | omega | (simp; done) | (simp; omega)) _ | with_reducible exact HB3.out)
    · have HP : Hid (askP h f zs who = ((who, f + 1, zs), true)) := Lib.hid (ask_free hv hw hq h0)
      clear hq
      go_wp2_with (go_at_call 35; refine (l1Has_no _ _ _ _ _ _ _ (by exact HR2.out.alloc (by omega) _) (by omega) HM.out).mono ?_; rintro e w' ⟨rfl, rfl⟩)
      refine bodyPost_ret (v := .tuple #[.agg #[.int .i64 who, .int .i64 (f + 1), .slice A2 n2 c2], .bool true]) (by simp [results, Tryd.results18, go_sem, x2, hz2]) rfl ⟨?_, ?_⟩
      · rw [HP.out]
        refine ⟨A2, n2, c2, rfl, ?_⟩
        repeat (first | with_reducible refine World.ownsRow.alloc ?_ _ | with_reducible refine ownsRow_setCell_other ?_ hne' _ | with_reducible exact HO2.out)
      · repeat (first | with_reducible refine Below.alloc ?_ (by first | omega | (simp; omega)) _ | with_reducible refine Below.setCell ?_ (by first | omega | (simp; done) | (simp; omega)) _ | with_reducible exact HB2.out)
end Go.Proofs.YtohbmkppfbbngaaDoor
