/-
  What is proved: the contract of spec.LockFree: what lock it returns, in memory of its own, and whether it succeeds. Condition: the line reads as a list.
-/
import Derived.Test.YtohbmkppfbbngaaDoorSpecLock
import Derived.Deep.RegionLaw
import Derived.BigRegion
import Derived.Deep.RegionHeld3
namespace Go.Proofs.YtohbmkppfbbngaaDoor
open Go.RowKit

theorem free_bad {h f who : Int} {zs : List Int} (hb : ¬ (lvB h f zs = true ∧ 0 ≤ who ∧ who ≤ 3)) : freeP h f zs who = ((0, 0, []), false) := by unfold freeP; rw [if_neg hb]
theorem free_line {h f who : Int} {zs : List Int} (hv : lvB h f zs = true) (hw : 0 ≤ who ∧ who ≤ 3) (hb : ¬ h = who) : freeP h f zs who = ((h, f, zs.filter (· ≠ who)), decide ((zs.filter (· ≠ who)).length < zs.length)) := by
  unfold freeP; rw [if_pos ⟨hv, hw⟩, if_neg hb]
theorem free_next {h f who z : Int} {zs : List Int} (hv : lvB h f (z :: zs) = true) (hw : 0 ≤ who ∧ who ≤ 3) (hb : h = who) (hf : f < 99) : freeP h f (z :: zs) who = ((z, f + 1, zs), true) := by
  unfold freeP; rw [if_pos ⟨hv, hw⟩, if_pos hb, if_pos ⟨by simp, hf⟩]; rfl
theorem free_none {h f who : Int} {zs : List Int} (hv : lvB h f zs = true) (hw : 0 ≤ who ∧ who ≤ 3) (hb : h = who) (hf : ¬ (zs ≠ [] ∧ f < 99)) : freeP h f zs who = ((-1, f, zs), true) := by
  unfold freeP; rw [if_pos ⟨hv, hw⟩, if_pos hb, if_neg hf]

/-- The state of LockFree's loop: ys is the line that has been collected. -/
def FRel (w : World) (b6 : Nat) (h f : Int) (A : Option Addr) (n c : Nat) (zs ys : List Int) (B : Nat) (wr : World) : Prop :=
  ∃ A' c', Blk wr b6 25 #[.int .i64 h, .int .i64 f, .slice A' ys.length c'] ∧ wr.ownsRow w.heap.size 3 1 (.slice A' ys.length c') ys.length (ints ys) ∧
    Blk wr w.heap.size 25 #[.int .i64 h, .int .i64 f, .slice A n c] ∧ Blk wr (w.heap.size + 1) 25 #[.int .i64 0, .int .i64 0, .slice none 0 0] ∧
    Reads wr B 1 A n (ints zs) ∧ Below w.heap.size w wr
theorem filter_step {zs : List Int} {k : Nat} {z who : Int} (hz : zs[k]? = some z) (h : z ≠ who) : (zs.take (k + 1)).filter (· ≠ who) = (zs.take k).filter (· ≠ who) ++ [z] := by
  rw [List.take_add_one, hz, List.filter_append]; simp [h]
theorem filter_skip {zs : List Int} {k : Nat} {z who : Int} (hz : zs[k]? = some z) (h : z = who) : (zs.take (k + 1)).filter (· ≠ who) = (zs.take k).filter (· ≠ who) := by
  rw [List.take_add_one, hz, List.filter_append]; simp [h]

set_option maxRecDepth 100000 in
set_option maxHeartbeats 1000000 in
theorem specFree_bad (h f who : Int) (A : Option Addr) (n c B : Nat) (zs : List Int) (w : World) (hr : Reads w B 1 A n (ints zs)) (hB : B ≤ w.heap.size) (hn : n ≤ c) (hc : c ≤ maxLen)
    (hb : ¬ (lvB h f zs = true ∧ 0 ≤ who ∧ who ≤ 3)) :
    Calls Tryd.prog 27 #[.agg #[.int .i64 h, .int .i64 f, .slice A n c], .int .i64 who] w fun e w' => RetLockOk w.heap.size (freeP h f zs who) e w' ∧ Below w.heap.size w w' := by
  have HP : Hid (freeP h f zs who = ((0, 0, []), false)) := Lib.hid (free_bad hb)
  have HR := Lib.hid hr
  have HQ := Lib.hid hb
  clear hr hb
  cases hv : lvB h f zs
  all_goals
    try have tw : inB who 0 3 = false := inB_no fun hw => HQ.out ⟨hv, hw⟩
    go_enter Tryd.func27, Tryd.ntmps27
    go_wp2_with (fail)
    refine (specValid_any h f A n c B zs _ ((HR.out.alloc hB _).alloc (by simp; omega) _) (by simp; omega) hn hc).mono ?_
    rintro e w1 ⟨rfl, hb1⟩
    have HB1 : Hid (Below w.heap.size w w1) := Lib.hid ((((Below.refl _ _).alloc (Nat.le_refl _) _).alloc (by simp) _).trans (hb1.mono (by simp; omega)))
    have HX1 := Lib.hid ((Blk.new' (g := w.heap.size + 1) (w.alloc (.cells #[.int .i64 h, .int .i64 f, .slice A n c] 25)) 25 #[.int .i64 0, .int .i64 0, .slice none 0 0] (by simp)).below hb1 (by simp))
    have x1 := HX1.out.cell
    have y1 := HX1.out.frozen
    clear hb1
    go_wp2_with (go_at_call 34; refine (l6In_any _ _ _ _).mono ?_; rintro e w' ⟨rfl, rfl⟩)
    refine bodyPost_ret (v := .tuple #[.agg #[.int .i64 0, .int .i64 0, .slice none 0 0], .bool false]) (by simp [results, Tryd.results27, go_sem, x1]) rfl ⟨?_, ?_⟩
    · rw [HP.out]
      exact ⟨none, 0, 0, rfl, World.ownsRow_nil _ _ _ _⟩
    · exact ((HB1.out.setCell (by simp) _).setCell (by simp) _).setCell (by simp) _

set_option maxRecDepth 100000 in
set_option maxHeartbeats 2000000 in
theorem specFree_line (h f who : Int) (A : Option Addr) (n c B : Nat) (zs : List Int) (w : World) (hr : Reads w B 1 A n (ints zs)) (hB : B ≤ w.heap.size) (hn : n ≤ c) (hc : c ≤ maxLen)
    (hv : lvB h f zs = true) (hw : 0 ≤ who ∧ who ≤ 3) (hh : ¬ h = who) :
    Calls Tryd.prog 27 #[.agg #[.int .i64 h, .int .i64 f, .slice A n c], .int .i64 who] w fun e w' => RetLockOk w.heap.size (freeP h f zs who) e w' ∧ Below w.heap.size w w' := by
  have hl := hr.len_ints
  have hn4 : n ≤ 4 := by rw [← hl]; exact lvB_len hv
  have hnum := lvB_nums hv
  have tw : inB who 0 3 = true := inB_yes hw
  obtain ⟨i0, hi0, hz0', hza, hzb⟩ := info_parts int_info
  have HL := Lib.hid hl
  have HR := Lib.hid hr
  clear hr hl
  go_enter Tryd.func27, Tryd.ntmps27
  go_wp2_with (fail)
  refine (specValid_any h f A n c B zs _ ((HR.out.alloc hB _).alloc (by simp; omega) _) (by simp; omega) hn hc).mono ?_
  rintro e w1 ⟨rfl, hb1⟩
  have HB1 : Hid (Below w.heap.size w w1) := Lib.hid ((((Below.refl _ _).alloc (Nat.le_refl _) _).alloc (by simp) _).trans (hb1.mono (by simp; omega)))
  have HX1 := Lib.hid ((Blk.new' (g := w.heap.size + 1) (w.alloc (.cells #[.int .i64 h, .int .i64 f, .slice A n c] 25)) 25 #[.int .i64 0, .int .i64 0, .slice none 0 0] (by simp)).below hb1 (by simp))
  have HK1 := Lib.hid (((Blk.new w 25 #[.int .i64 h, .int .i64 f, .slice A n c]).alloc (.cells #[.int .i64 0, .int .i64 0, .slice none 0 0] 25)).below hb1 (by simp; omega))
  have HR1 := Lib.hid (((HR.out.alloc hB (.cells #[.int .i64 h, .int .i64 f, .slice A n c] 25)).alloc (by simp; omega) (.cells #[.int .i64 0, .int .i64 0, .slice none 0 0] 25)).below (hb1.mono (by simp; omega)))
  have k1 := HK1.out.cell
  have hz1 := HX1.out.lt
  clear hb1
  go_wp2_with (go_at_call 34; refine (l6In_any _ _ _ _).mono ?_; rintro e w' ⟨rfl, rfl⟩)
  refine (l33Copy_any h f A n c B zs _ HR1.out (by omega) hn4).mono ?_
  rintro e w2 ⟨⟨A2, n2, c2, rfl, hown2⟩, hb2⟩
  have hn2 : n2 = n := by
    have h1 := (Reads.of_own hown2).len_ints
    have := HL.out
    omega
  subst hn2
  have HB2 : Hid (Below w.heap.size w w2) := Lib.hid (HB1.out.trans (hb2.mono (by omega)))
  have HX2 := Lib.hid (HX1.out.below hb2 (by omega))
  have HK2 := Lib.hid (HK1.out.below hb2 (by omega))
  have HR2 := Lib.hid (HR1.out.below (hb2.mono (by omega)))
  have HO2 := Lib.hid (own_mono hown2 (Nat.le_trans (Nat.le_add_right w.heap.size 1) (by omega) : w.heap.size ≤ _))
  have hcap := own_caps hown2
  have k2 := HK2.out.cell
  have x2 := HX2.out.cell
  have y2 := HX2.out.frozen
  have hz2 := HX2.out.lt
  clear hb2 hown2 k1 HB1 HX1 HK1 HR1
  have hz3 : w.heap.size < w2.heap.size := by omega
  have hne' : (Value.slice A2 n2 c2).ownBlock ≠ some (w.heap.size + 1) := own_blk_ne HO2.out HX2.out (by decide)
  have hlt6 : (Value.slice A2 n2 c2).ownBlock ≠ some w2.heap.size := by intro e; have := (World.ownsRow.lt HO2.out _ e).2; omega
  have HP : Hid (freeP h f zs who = ((h, f, zs.filter (· ≠ who)), decide ((zs.filter (· ≠ who)).length < zs.length))) := Lib.hid (free_line hv hw hh)
  have tb : (h != who) = true := by simp [hh]
  go_wp2_with (fail)
  have hsz : w.heap.size + 1 < w2.heap.size := hz2
  have HS : FRel w w2.heap.size h f A n2 c zs [] B ((w2.alloc (.cells #[.int .i64 h, .int .i64 f, .slice (some ⟨w2.heap.size + 1, 0, none⟩) 0 0] 25)).alloc (.cells #[] 3)) :=
    ⟨_, _, (Blk.new w2 _ _).alloc _, own_lit (g := w2.heap.size + 1) (n := 0) (xs := []) _ (by simp) (by omega) rfl (by unfold maxLen; omega), (HK2.out.alloc _).alloc _, (HX2.out.alloc _).alloc _, (HR2.out.alloc (by omega) _).alloc (by simp; omega) _, (HB2.out.alloc (by omega) _).alloc (by simp; omega) _⟩
  clear k2 x2 y2 HB2 HX2 HK2 HR2 HO2 hne' hlt6
  go_loopw [7] (fun i wr => ∃ k : Nat, k ≤ n2 ∧ i = .int .i64 k ∧ FRel w w2.heap.size h f A n2 c zs ((zs.take k).filter (· ≠ who)) B wr) (fun i _ => n2 - (intOf i).toNat)
  case atStart => exact ⟨0, Nat.zero_le _, rfl, by simpa using HS⟩
  case round =>
    clear HS
    obtain ⟨k, hk, rfl, A3, c3, HB6, HOy, HB0, HB1, HRr, HBl⟩ := hrel
    have hylen : ((zs.take k).filter (· ≠ who)).length ≤ 4 := Nat.le_trans (List.length_filter_le _ _) (by rw [List.length_take]; omega)
    generalize hyy : (zs.take k).filter (· ≠ who) = ys at HB6 HOy hylen
    have HY := Lib.hid hyy
    have k6 := HB6.cell
    have f6 := HB6.frozen
    have k0 := HB0.cell
    have hz6 := HB6.lt
    have hz0 := HB0.lt
    have hcapy := own_caps HOy
    have H6 := Lib.hid HB6
    have HO := Lib.hid HOy
    have H0 := Lib.hid HB0
    have H1 := Lib.hid HB1
    have HRR := Lib.hid HRr
    have HBB := Lib.hid HBl
    have hn6 : (Value.slice A3 ys.length c3).ownBlock ≠ some w2.heap.size := own_blk_ne HOy HB6 (by decide)
    have hn0 : (Value.slice A3 ys.length c3).ownBlock ≠ some w.heap.size := own_blk_ne HOy HB0 (by decide)
    have hn1 : (Value.slice A3 ys.length c3).ownBlock ≠ some (w.heap.size + 1) := own_blk_ne HOy HB1 (by decide)
    clear hyy HB6 HOy HB0 HB1 HRr HBl
    by_cases hlt : k < n2
    · obtain ⟨ad, u, rfl, _, hx, hcell⟩ := HRR.out.at_ hlt
      obtain ⟨z, hz, rfl⟩ := ints_at hx
      have HZ := Lib.hid hz
      clear hz hx
      by_cases he : z = who
      · have tb : (z != who) = false := by simp [he]
        have HE := Lib.hid he
        clear he
        go_wp2
        go_roundw
        case rel => exact ⟨k + 1, by omega, by go_num, A3, c3, by rw [filter_skip HZ.out HE.out, HY.out]; exact H6.out, by rw [filter_skip HZ.out HE.out, HY.out]; exact HO.out, H0.out, H1.out, HRR.out, HBB.out⟩
        case measure => simp [intOf]; omega
      · have tb : (z != who) = true := by simp [he]
        go_wp2_with (fail)
        go_region_law (first
          | (refine step_append_any _ rfl (.tmp 40) (.tmp 46) _ rfl w.heap.size 3 i0 _ 1 8 Tryd.underlying23 hi0 hz0' (by assumption) hzb rfl (by omega) (.slice A3 ys.length c3) ys.length (ints ys) rfl
               (by exact World.ownsRow.alloc (World.ownsRow.drew HO.out) _) (wr.heap.size + 1) (some ⟨wr.heap.size, 0, none⟩) 1 1 (ints [z]) rfl (by exact reads_new wr.drew rfl rfl) ints_one (by unfold maxLen; omega) (by omega) (by simp; omega) ?_
             intro v4 w4 hown4 hg4 hat4
             rw [ints_append] at hown4
             obtain ⟨A4, c4, rfl⟩ := own_slice hown4
             have H64 : Hid (Blk w4 w2.heap.size 25 #[.int .i64 h, .int .i64 f, .slice A3 ys.length c3]) := Lib.hid (by exact Blk.grown ((H6.out.alloc (.cells #[.int .i64 z] 3)).drew) hg4 hn6.symm)
             have H04 : Hid (Blk w4 w.heap.size 25 #[.int .i64 h, .int .i64 f, .slice (some ad) n2 c]) := Lib.hid (by exact Blk.grown ((H0.out.alloc (.cells #[.int .i64 z] 3)).drew) hg4 hn0.symm)
             have H14 : Hid (Blk w4 (w.heap.size + 1) 25 #[.int .i64 0, .int .i64 0, .slice none 0 0]) := Lib.hid (by exact Blk.grown ((H1.out.alloc (.cells #[.int .i64 z] 3)).drew) hg4 hn1.symm)
             have HB4 : Hid (Below w.heap.size w w4) := Lib.hid (by exact Below.grown ((HBB.out.alloc (by omega) (.cells #[.int .i64 z] 3)).drew) hg4 (by simp; omega) (fun k hk => (World.ownsRow.lt HO.out k hk).1))
             have hn64 : (Value.slice A4 (ys.length + 1) c4).ownBlock ≠ some w2.heap.size := own_blk_ne hown4 H64.out (by decide)
             have HO4 := Lib.hid hown4
             have HR4 : Hid (Reads w4 B 1 (some ad) n2 (ints zs)) := Lib.hid (by exact Reads.grown ((HRR.out.alloc (by omega) (.cells #[.int .i64 z] 3)).drew) hg4 (by simp; omega) (fun k hk => by have := (World.ownsRow.lt HO.out k hk).1; omega))
             have k64 := H64.out.cell
             have f64 := H64.out.frozen
             clear hown4 hg4 hat4))
        all_goals
          go_wp2
          refine ⟨⟨k + 1, by omega, by go_num, ?_⟩, by simp [intOf]; omega⟩
          rw [filter_step HZ.out he, HY.out]
          have hl : (ys ++ [z]).length = ys.length + 1 := by simp
          refine ⟨A4, c4, ?_, ?_, ?_, ?_, ?_, ?_⟩
          · rw [hl]; exact H64.out.set_ 2 _
          · rw [hl]; exact ownsRow_setCell_other HO4.out hn64 _
          · exact H04.out.far (by simp; omega) _
          · exact H14.out.far (by simp; omega) _
          · exact HR4.out.setCell (by simp; omega) _
          · exact HB4.out.setCell (by simp; omega) _
    · have hk2 : n2 = k := by omega
      have HQ : Hid (zs.filter (· ≠ who) = ys) := Lib.hid (by
        have h1 := HY.out
        rwa [List.take_of_length_le (by have := HL.out; omega)] at h1)
      clear hk2
      have HLEN : Hid (decide (ys.length < n2) = decide (ys.length < zs.length)) := Lib.hid (by rw [HL.out])
      have k1 := H1.out.cell
      have f1 := H1.out.frozen
      have hz7 := H1.out.lt
      go_wp2_with (fail)
      go_region
      all_goals
        go_wp2
        refine bodyPost_ret (v := .tuple #[.agg #[.int .i64 h, .int .i64 f, .slice A3 ys.length c3], .bool (decide (ys.length < n2))]) (by simp [results, Tryd.results27, go_sem, k1]) rfl ⟨?_, ?_⟩
        · rw [HP.out, HQ.out, HLEN.out]
          refine ⟨A3, ys.length, c3, rfl, ?_⟩
          repeat (first | with_reducible refine World.ownsRow.drew ?_ | with_reducible refine ownsRow_setCell_other ?_ hn1 _ | with_reducible exact HO.out)
        · repeat (first | with_reducible refine Below.drew ?_ | with_reducible refine Below.setCell ?_ (by first | omega | (simp; done) | (simp; omega)) _ | with_reducible exact HBB.out)
end Go.Proofs.YtohbmkppfbbngaaDoor
