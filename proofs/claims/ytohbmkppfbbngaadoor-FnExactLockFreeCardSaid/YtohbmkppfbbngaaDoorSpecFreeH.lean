/-
  What is proved: the contract of spec.LockFree where the holder frees the lock, and the contract as a whole. Condition: the line reads as a list.
-/
import Derived.Test.YtohbmkppfbbngaaDoorSpecFree
namespace Go.Proofs.YtohbmkppfbbngaaDoor
open Go.RowKit

set_option maxRecDepth 100000 in
set_option maxHeartbeats 2000000 in
theorem specFree_next (h f who : Int) (A : Option Addr) (n c B : Nat) (z : Int) (zs' : List Int) (w : World) (hr : Reads w B 1 A n (ints (z :: zs'))) (hB : B ≤ w.heap.size) (hn : n ≤ c) (hc : c ≤ maxLen)
    (hv : lvB h f (z :: zs') = true) (hw : 0 ≤ who ∧ who ≤ 3) (hh : h = who) (hf : f < 99) :
    Calls Tryd.prog 27 #[.agg #[.int .i64 h, .int .i64 f, .slice A n c], .int .i64 who] w fun e w' => RetLockOk w.heap.size (freeP h f (z :: zs') who) e w' ∧ Below w.heap.size w w' := by
  have hl := hr.len_ints
  have hn4 : n ≤ 4 := by rw [← hl]; exact lvB_len hv
  have hnum := lvB_nums hv
  have tw : inB who 0 3 = true := inB_yes hw
  obtain ⟨i0, hi0, hz0', hza, hzb⟩ := info_parts int_info
  have HL := Lib.hid hl
  have HR := Lib.hid hr
  clear hr hl
  have hg : 0 < n := by have := HL.out; simp at this; omega
  have tb : (h != who) = false := by simp [hh]
  have HP : Hid (freeP h f (z :: zs') who = ((z, f + 1, zs'), true)) := Lib.hid (free_next hv hw hh hf)
  clear hh
  go_enter Tryd.func27, Tryd.ntmps27
  go_wp2_with (fail)
  refine (specValid_any h f A n c B (z :: zs') _ ((HR.out.alloc hB _).alloc (by simp; omega) _) (by simp; omega) hn hc).mono ?_
  rintro e w1 ⟨rfl, hb1⟩
  have HB1 : Hid (Below w.heap.size w w1) := Lib.hid ((((Below.refl _ _).alloc (Nat.le_refl _) _).alloc (by simp) _).trans (hb1.mono (by simp; omega)))
  have HX1 := Lib.hid ((Blk.new' (g := w.heap.size + 1) (w.alloc (.cells #[.int .i64 h, .int .i64 f, .slice A n c] 25)) 25 #[.int .i64 0, .int .i64 0, .slice none 0 0] (by simp)).below hb1 (by simp))
  have HK1 := Lib.hid (((Blk.new w 25 #[.int .i64 h, .int .i64 f, .slice A n c]).alloc (.cells #[.int .i64 0, .int .i64 0, .slice none 0 0] 25)).below hb1 (by simp; omega))
  have HR1 := Lib.hid (((HR.out.alloc hB (.cells #[.int .i64 h, .int .i64 f, .slice A n c] 25)).alloc (by simp; omega) (.cells #[.int .i64 0, .int .i64 0, .slice none 0 0] 25)).below (hb1.mono (by simp; omega)))
  have k1 := HK1.out.cell
  have hz1 := HX1.out.lt
  clear hb1
  go_wp2_with (go_at_call 34; refine (l6In_any _ _ _ _).mono ?_; rintro e w' ⟨rfl, rfl⟩)
  refine (l33Copy_any h f A n c B (z :: zs') _ HR1.out (by omega) hn4).mono ?_
  rintro e w2 ⟨⟨A2, n2, c2, rfl, hown2⟩, hb2⟩
  have hn2 : n2 = n := by
    have h1 := (Reads.of_own hown2).len_ints
    have := HL.out
    omega
  subst hn2
  have HB2 : Hid (Below w.heap.size w w2) := Lib.hid (HB1.out.trans (hb2.mono (by omega)))
  have HX2 := Lib.hid (HX1.out.below hb2 (by omega))
  have HK2 := Lib.hid (HK1.out.below hb2 (by omega))
  have HR2 := Lib.hid (HR1.out.below (hb2.mono (by omega)))
  have HO2 := Lib.hid (own_mono hown2 (Nat.le_trans (Nat.le_add_right w.heap.size 1) (by omega) : w.heap.size ≤ _))
  have hcap := own_caps hown2
  have k2 := HK2.out.cell
  have x2 := HX2.out.cell
  have y2 := HX2.out.frozen
  have hz2 := HX2.out.lt
  clear hb2 hown2 k1 HB1 HX1 HK1 HR1
  have hz3 : w.heap.size < w2.heap.size := by omega
  have hne' : (Value.slice A2 n2 c2).ownBlock ≠ some (w.heap.size + 1) := own_blk_ne HO2.out HX2.out (by decide)
  have hlt6 : (Value.slice A2 n2 c2).ownBlock ≠ some w2.heap.size := by intro e; have := (World.ownsRow.lt HO2.out _ e).2; omega
  obtain ⟨ad, u, rfl, hab, hx, hcell⟩ := HR2.out.at_ hg
  obtain rfl : u = .int .i64 z := by simpa [ints] using hx.symm
  have had : ad.block < w2.heap.size := by omega
  have hc0 : w2.cell? ad = some (.int .i64 z) := by simpa [Addr.add] using hcell
  clear hx hcell
  have hcut := HR2.out.cut (k := 1) (cap := c) (by omega) hn
  have hcut2 : Reads w2 B 1 (if c = 1 then some ad else some ⟨ad.block, ad.off + 1, none⟩) (n2 - 1) (ints zs') := by
    simpa [Addr.add, ints] using hcut
  have HC := Lib.hid hcut2
  have HO1 : Hid (((w2.alloc (.cells #[.int .i64 z, .int .i64 (f + 1), .slice A2 n2 c2] 25)).alloc (.cells #[] 3)).ownsRow w.heap.size 3 1 (.slice (some ⟨w2.heap.size + 1, 0, none⟩) 0 0) 0 (ints [])) :=
    Lib.hid (own_lit (g := w2.heap.size + 1) (n := 0) (xs := []) _ (by simp) (by omega) rfl (by unfold maxLen; omega))
  clear hcut hcut2
  go_wp2_with (at_builtin
               refine wpList_append_any _ rfl (.tmp 76) (.tmp 79) _ rfl w.heap.size 3 i0 _ 1 8 Tryd.underlying23 hi0 hz0' (by assumption) hzb rfl (by omega) (.slice (some ⟨w2.heap.size + 1, 0, none⟩) 0 0) 0 (ints []) rfl
                 HO1.out B _ (n2 - 1) _ (ints zs') rfl (by exact (HC.out.alloc (by omega) _).alloc (by simp; omega) _) ints_one (by unfold maxLen; omega) (by omega) (by simp; omega) ?_
               intro v3 w3 hown3 hg3 hat3
               rw [Nat.zero_add, show ints [] ++ ints zs' = ints zs' from rfl] at hown3
               obtain ⟨A3, c3, rfl⟩ := own_slice hown3
               have HX3 := Lib.hid (((HX2.out.alloc (.cells #[.int .i64 z, .int .i64 (f + 1), .slice A2 n2 c2] 25)).alloc (.cells #[] 3)).grown hg3 (by simp [Value.ownBlock]; omega))
               have HK3 := Lib.hid (((Blk.new w2 25 #[.int .i64 z, .int .i64 (f + 1), .slice A2 n2 c2]).alloc (.cells #[] 3)).grown hg3 (by simp [Value.ownBlock]))
               have HB3 : Hid (Below w.heap.size w w3) := Lib.hid (((HB2.out.alloc (by omega) _).alloc (by simp; omega) _).grown hg3 (by simp; omega) (by simp [Value.ownBlock]; omega))
               have hne3 : (Value.slice A3 (n2 - 1) c3).ownBlock ≠ some (w.heap.size + 1) := own_blk_ne hown3 HX3.out (by decide)
               have hne4 : (Value.slice A3 (n2 - 1) c3).ownBlock ≠ some w2.heap.size := own_blk_ne hown3 HK3.out (by decide)
               have HO3 := Lib.hid hown3
               have x3 := HX3.out.cell
               have y3 := HX3.out.frozen
               have k3 := HK3.out.cell
               have f3 := HK3.out.frozen
               clear hown3 hg3 hat3)
  all_goals
    refine bodyPost_ret (v := .tuple #[.agg #[.int .i64 z, .int .i64 (f + 1), .slice A3 (n2 - 1) c3], .bool true]) (by simp [results, Tryd.results27, go_sem, x3]) rfl ⟨?_, ?_⟩
    · rw [HP.out]
      refine ⟨A3, n2 - 1, c3, rfl, ?_⟩
      repeat (first | with_reducible refine World.ownsRow.alloc ?_ _ | with_reducible refine ownsRow_setCell_other ?_ hne3 _ | with_reducible refine ownsRow_setCell_other ?_ hne4 _ | with_reducible exact HO3.out)
    · repeat (first | with_reducible refine Below.alloc ?_ (by first | omega | (simp; omega)) _ | with_reducible refine Below.setCell ?_ (by first | omega | (simp; done) | (simp; omega)) _ | with_reducible exact HB3.out)

set_option maxRecDepth 100000 in
set_option maxHeartbeats 2000000 in
theorem specFree_none (h f who : Int) (A : Option Addr) (n c B : Nat) (zs : List Int) (w : World) (hr : Reads w B 1 A n (ints zs)) (hB : B ≤ w.heap.size) (hn : n ≤ c) (hc : c ≤ maxLen)
    (hv : lvB h f zs = true) (hw : 0 ≤ who ∧ who ≤ 3) (hh : h = who) (hf : n = 0 ∨ ¬ f < 99) :
    Calls Tryd.prog 27 #[.agg #[.int .i64 h, .int .i64 f, .slice A n c], .int .i64 who] w fun e w' => RetLockOk w.heap.size (freeP h f zs who) e w' ∧ Below w.heap.size w w' := by
  have hl := hr.len_ints
  have hn4 : n ≤ 4 := by rw [← hl]; exact lvB_len hv
  have hnum := lvB_nums hv
  have tw : inB who 0 3 = true := inB_yes hw
  obtain ⟨i0, hi0, hz0', hza, hzb⟩ := info_parts int_info
  have HL := Lib.hid hl
  have HR := Lib.hid hr
  clear hr hl
  have tb : (h != who) = false := by simp [hh]
  have HP : Hid (freeP h f zs who = ((-1, f, zs), true)) := Lib.hid (free_none hv hw hh (fun e => by
    rcases hf with h1 | h1
    · exact e.1 (List.eq_nil_of_length_eq_zero (by have := HL.out; omega))
    · exact h1 e.2))
  clear hh
  go_enter Tryd.func27, Tryd.ntmps27
  go_wp2_with (fail)
  refine (specValid_any h f A n c B zs _ ((HR.out.alloc hB _).alloc (by simp; omega) _) (by simp; omega) hn hc).mono ?_
  rintro e w1 ⟨rfl, hb1⟩
  have HB1 : Hid (Below w.heap.size w w1) := Lib.hid ((((Below.refl _ _).alloc (Nat.le_refl _) _).alloc (by simp) _).trans (hb1.mono (by simp; omega)))
  have HX1 := Lib.hid ((Blk.new' (g := w.heap.size + 1) (w.alloc (.cells #[.int .i64 h, .int .i64 f, .slice A n c] 25)) 25 #[.int .i64 0, .int .i64 0, .slice none 0 0] (by simp)).below hb1 (by simp))
  have HK1 := Lib.hid (((Blk.new w 25 #[.int .i64 h, .int .i64 f, .slice A n c]).alloc (.cells #[.int .i64 0, .int .i64 0, .slice none 0 0] 25)).below hb1 (by simp; omega))
  have HR1 := Lib.hid (((HR.out.alloc hB (.cells #[.int .i64 h, .int .i64 f, .slice A n c] 25)).alloc (by simp; omega) (.cells #[.int .i64 0, .int .i64 0, .slice none 0 0] 25)).below (hb1.mono (by simp; omega)))
  have k1 := HK1.out.cell
  have hz1 := HX1.out.lt
  clear hb1
  go_wp2_with (go_at_call 34; refine (l6In_any _ _ _ _).mono ?_; rintro e w' ⟨rfl, rfl⟩)
  refine (l33Copy_any h f A n c B zs _ HR1.out (by omega) hn4).mono ?_
  rintro e w2 ⟨⟨A2, n2, c2, rfl, hown2⟩, hb2⟩
  have hn2 : n2 = n := by
    have h1 := (Reads.of_own hown2).len_ints
    have := HL.out
    omega
  subst hn2
  have HB2 : Hid (Below w.heap.size w w2) := Lib.hid (HB1.out.trans (hb2.mono (by omega)))
  have HX2 := Lib.hid (HX1.out.below hb2 (by omega))
  have HK2 := Lib.hid (HK1.out.below hb2 (by omega))
  have HR2 := Lib.hid (HR1.out.below (hb2.mono (by omega)))
  have HO2 := Lib.hid (own_mono hown2 (Nat.le_trans (Nat.le_add_right w.heap.size 1) (by omega) : w.heap.size ≤ _))
  have hcap := own_caps hown2
  have k2 := HK2.out.cell
  have x2 := HX2.out.cell
  have y2 := HX2.out.frozen
  have hz2 := HX2.out.lt
  clear hb2 hown2 k1 HB1 HX1 HK1 HR1
  have hz3 : w.heap.size < w2.heap.size := by omega
  have hne' : (Value.slice A2 n2 c2).ownBlock ≠ some (w.heap.size + 1) := own_blk_ne HO2.out HX2.out (by decide)
  have hlt6 : (Value.slice A2 n2 c2).ownBlock ≠ some w2.heap.size := by intro e; have := (World.ownsRow.lt HO2.out _ e).2; omega
  by_cases hg : 0 < n2
  · have hf2 : ¬ f < 99 := by omega
    clear hf
    go_wp2
    refine bodyPost_ret (v := .tuple #[.agg #[.int .i64 (-1), .int .i64 f, .slice A2 n2 c2], .bool true]) (by simp [results, Tryd.results27, go_sem, x2, hz2]) rfl ⟨?_, ?_⟩
    · rw [HP.out]
      refine ⟨A2, n2, c2, rfl, ?_⟩
      repeat (first | with_reducible refine World.ownsRow.alloc ?_ _ | with_reducible refine ownsRow_setCell_other ?_ hne' _ | with_reducible exact HO2.out)
    · repeat (first | with_reducible refine Below.alloc ?_ (by first | omega | (simp; omega)) _ | with_reducible refine Below.setCell ?_ (by first | omega | (simp; done) | (simp; omega)) _ | with_reducible exact HB2.out)
  · clear hf
    go_wp2
    refine bodyPost_ret (v := .tuple #[.agg #[.int .i64 (-1), .int .i64 f, .slice A2 n2 c2], .bool true]) (by simp [results, Tryd.results27, go_sem, x2, hz2]) rfl ⟨?_, ?_⟩
    · rw [HP.out]
      refine ⟨A2, n2, c2, rfl, ?_⟩
      repeat (first | with_reducible refine World.ownsRow.alloc ?_ _ | with_reducible refine ownsRow_setCell_other ?_ hne' _ | with_reducible exact HO2.out)
    · repeat (first | with_reducible refine Below.alloc ?_ (by first | omega | (simp; omega)) _ | with_reducible refine Below.setCell ?_ (by first | omega | (simp; done) | (simp; omega)) _ | with_reducible exact HB2.out)

theorem specFree_any (h f who : Int) (A : Option Addr) (n c B : Nat) (zs : List Int) (w : World) (hr : Reads w B 1 A n (ints zs)) (hB : B ≤ w.heap.size) (hn : n ≤ c) (hc : c ≤ maxLen) :
    Calls Tryd.prog 27 #[.agg #[.int .i64 h, .int .i64 f, .slice A n c], .int .i64 who] w fun e w' => RetLockOk w.heap.size (freeP h f zs who) e w' ∧ Below w.heap.size w w' := by
  by_cases hb : lvB h f zs = true ∧ 0 ≤ who ∧ who ≤ 3
  · by_cases hh : h = who
    · by_cases hf : n = 0 ∨ ¬ f < 99
      · exact specFree_none h f who A n c B zs w hr hB hn hc hb.1 hb.2 hh hf
      · cases zs with
        | nil => exact absurd (.inl (by have := hr.len_ints; simpa using this.symm)) hf
        | cons z r => exact specFree_next h f who A n c B z r w hr hB hn hc hb.1 hb.2 hh (by omega)
    · exact specFree_line h f who A n c B zs w hr hB hn hc hb.1 hb.2 hh
  · exact specFree_bad h f who A n c B zs w hr hB hn hc hb
theorem specAsk_any (h f who : Int) (A : Option Addr) (n c B : Nat) (zs : List Int) (w : World) (hr : Reads w B 1 A n (ints zs)) (hB : B ≤ w.heap.size) (hn : n ≤ c) (hc : c ≤ maxLen) :
    Calls Tryd.prog 18 #[.agg #[.int .i64 h, .int .i64 f, .slice A n c], .int .i64 who] w fun e w' => RetLockOk w.heap.size (askP h f zs who) e w' ∧ Below w.heap.size w w' := by
  by_cases hb : lvB h f zs = true ∧ 0 ≤ who ∧ who ≤ 3
  · exact specAsk_good h f who A n c B zs w hr hB hn hc hb.1 hb.2
  · exact specAsk_bad h f who A n c B zs w hr hB hn hc hb
end Go.Proofs.YtohbmkppfbbngaaDoor
