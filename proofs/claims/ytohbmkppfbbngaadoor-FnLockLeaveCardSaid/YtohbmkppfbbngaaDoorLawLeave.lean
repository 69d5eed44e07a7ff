/-
  What is proved: laws.FnLockLeave returns true for every code, and nothing that was there changes. Conditions: the code reads as bytes, and the variable errors.errorType holds the handle of the type error.
-/
import Derived.Test.YtohbmkppfbbngaaDoorGives
import Derived.Test.YtohbmkppfbbngaaDoorLockFacts
import Derived.Deep.RegionHeld3
import Derived.Deep.RegionLaw
import Derived.BigRegion
namespace Go.Proofs.YtohbmkppfbbngaaDoor
open Go.RowKit

/-- The state of the loop: ys is what has been collected. -/
def LvRel (w4 : World) (who : Int) (zs : List Int) (k : Nat) (v : Value) (wr : World) : Prop :=
  ∃ A c, v = .slice A ((zs.take k).filter (· ≠ who)).length c ∧ wr.ownsRow w4.heap.size 3 1 (.slice A ((zs.take k).filter (· ≠ who)).length c) ((zs.take k).filter (· ≠ who)).length (ints ((zs.take k).filter (· ≠ who))) ∧ Below w4.heap.size w4 wr

set_option maxRecDepth 100000 in
set_option maxHeartbeats 4000000 in
theorem lawLeave_any (A : Option Addr) (n c B : Nat) (bs : List Int) (w : World) (hr : Reads w B 1 A n (bys bs)) (hB : B ≤ w.heap.size) (hb : Bytes bs) (hnc : n ≤ c) (hc : c ≤ maxLen) (hg : Held w) :
    Calls Tryd.prog 9 #[.slice A n c] w fun e w' => e = .returned (.bool true) ∧ Below w.heap.size w w' := by
  have HR := Lib.hid hr
  have HB := Lib.hid hb
  have HG := Lib.hid hg
  clear hr hb hg
  have hc' : c ≤ 9223372036854775807 := by unfold maxLen at hc; omega
  by_cases hn : 1048576 < n
  · go_enter Tryd.func9, Tryd.ntmps9
    go_wp2_with (fail)
    go_ret
    exact ⟨rfl, Below.refl _ _⟩
  go_enter Tryd.func9, Tryd.ntmps9
  go_wp2_with (fail)
  refine (drawFreeLock_any A n c B bs w HR.out hB HB.out hnc hc).mono ?_
  rintro e w1 ⟨h, f, zs, A1, c1, who, rfl, hown1, hb1, hdb, hw0, hw1⟩
  have hcap := own_caps hown1
  have hlen : zs.length ≤ 6 := hdb.2.2.2.2
  have hd := hdb
  obtain ⟨hh0, hh1, hf0, hf1, _⟩ := hdb
  obtain ⟨rh, rf, rz, ro, hres⟩ : ∃ rh rf rz ro, freeP h f zs who = ((rh, rf, rz), ro) := ⟨_, _, _, _, rfl⟩
  have HRES := Lib.hid hres
  have HR1 := Lib.hid (Reads.of_own hown1)
  have HOWN1 := Lib.hid hown1
  have HB1 := Lib.hid hb1
  have G1 : Hid (Held w1) := Lib.hid (HG.out.below hb1)
  have hz1 : w.heap.size ≤ w1.heap.size := hb1.size
  clear hown1 hb1 hres hd
  go_wp2_with (fail)
  refine (implFree_r HRES.out A1 zs.length c1 w1.heap.size _ (by exact HR1.out.alloc (Nat.le_refl _) _) (by simp) hcap.1 hcap.2 (by omega) (by exact G1.out.below ((Below.refl _ _).alloc (Nat.le_refl _) _))).mono ?_
  rintro e w2 ⟨A2, c2, rfl, hown2, hb2⟩
  have HL2 := Lib.hid ((Blk.new w1 25 #[.int .i64 h, .int .i64 f, .slice A1 zs.length c1]).below hb2 (by simp))
  have HR2 := Lib.hid ((HR1.out.alloc (Nat.le_refl _) (.cells #[.int .i64 h, .int .i64 f, .slice A1 zs.length c1] 25)).below (hb2.mono (by simp)))
  have HB2 : Hid (Below w.heap.size w w2) := Lib.hid ((HB1.out.alloc hz1 _).trans (hb2.mono (by simp; omega)))
  have HO2 := Lib.hid (Reads.of_own hown2)
  have hcap2 := own_caps hown2
  have l2 := HL2.out.cell
  have hz2 := HL2.out.lt
  clear hown2 hb2 HR1 HB1
  go_wp2_with (fail)
  refine (specFree_r HRES.out A1 zs.length c1 w1.heap.size _ (by exact HR2.out.alloc (by omega) _) (by simp; omega) hcap.1 hcap.2).mono ?_
  rintro e w3 ⟨A3, c3, rfl, hown3, hb3⟩
  have HL3 := Lib.hid ((HL2.out.alloc (.cells #[.int .i64 rh, .int .i64 rf, .slice A2 rz.length c2] 25)).below hb3 (by simp; omega))
  have HI3 := Lib.hid ((Blk.new w2 25 #[.int .i64 rh, .int .i64 rf, .slice A2 rz.length c2]).below hb3 (by simp))
  have HR3 := Lib.hid ((HR2.out.alloc (by omega) (.cells #[.int .i64 rh, .int .i64 rf, .slice A2 rz.length c2] 25)).below (hb3.mono (by simp; omega)))
  have HO3 := Lib.hid ((HO2.out.alloc (Nat.le_refl _) (.cells #[.int .i64 rh, .int .i64 rf, .slice A2 rz.length c2] 25)).below (hb3.mono (by simp)))
  have HB3 : Hid (Below w.heap.size w w3) := Lib.hid ((HB2.out.alloc (by omega) _).trans (hb3.mono (by simp; omega)))
  have HS3 := Lib.hid (Reads.of_own hown3)
  have hcap3 := own_caps hown3
  have l3 := HL3.out.cell
  have i3 := HI3.out.cell
  have hz3 := HI3.out.lt
  have hz3' := HL3.out.lt
  clear hown3 hb3 HL2 HR2 HO2 HB2 l2
  have ho : (ro != ro) = false := by simp
  have ho2 : (ro == ro) = true := by simp
  have he : eqLB rh rf rz rh rf rz = true := by simp [eqLB]
  go_wp2_with (fail)
  refine (sameLock_any rh rf rh rf A2 A3 rz.length rz.length c2 c3 w2.heap.size w3.heap.size rz rz _ (by exact HO3.out.alloc (by omega) _) (by exact HS3.out.alloc (Nat.le_refl _) _) (by simp; omega) (by simp) (by omega) (by omega)).mono ?_
  rintro e w4 ⟨rfl, hb4⟩
  have HL4 := Lib.hid ((HL3.out.alloc (.cells #[.int .i64 rh, .int .i64 rf, .slice A3 rz.length c3] 25)).below hb4 (by simp; omega))
  have HI4 := Lib.hid ((HI3.out.alloc (.cells #[.int .i64 rh, .int .i64 rf, .slice A3 rz.length c3] 25)).below hb4 (by simp; omega))
  have HW4 := Lib.hid ((Blk.new w3 25 #[.int .i64 rh, .int .i64 rf, .slice A3 rz.length c3]).below hb4 (by simp))
  have HR4 := Lib.hid ((HR3.out.alloc (by omega) (.cells #[.int .i64 rh, .int .i64 rf, .slice A3 rz.length c3] 25)).below (hb4.mono (by simp; omega)))
  have HO4 := Lib.hid ((HO3.out.alloc (by omega) (.cells #[.int .i64 rh, .int .i64 rf, .slice A3 rz.length c3] 25)).below (hb4.mono (by simp; omega)))
  have HS4 := Lib.hid ((HS3.out.alloc (Nat.le_refl _) (.cells #[.int .i64 rh, .int .i64 rf, .slice A3 rz.length c3] 25)).below (hb4.mono (by simp)))
  have HB4 : Hid (Below w.heap.size w w4) := Lib.hid ((HB3.out.alloc (by omega) _).trans (hb4.mono (by simp; omega)))
  have l4 := HL4.out.cell
  have i4 := HI4.out.cell
  have q4 := HW4.out.cell
  have hy1 := HL4.out.lt
  have hy2 := HI4.out.lt
  have hy3 := HW4.out.lt
  clear hb4 HL3 HI3 HR3 HO3 HS3 HB3 l3 i3
  cases hro : ro
  · go_wp2_with (fail)
    refine (sameLock_any rh rf rh rf A2 A3 rz.length rz.length c2 c3 w2.heap.size w3.heap.size rz rz _ (by exact HO4.out) (by exact HS4.out) (by omega) (by omega) (by omega) (by omega)).mono ?_
    rintro e wz ⟨rfl, hbz⟩
    go_wp2_with (fail)
    go_ret
    exact ⟨rfl, HB4.out.trans (hbz.mono (by omega))⟩
  subst hro
  by_cases hh : h = who
  · have tb : (h == who) = true := by simp [hh]
    clear hh
    go_wp2_with (fail)
    refine (sameLock_any rh rf rh rf A2 A3 rz.length rz.length c2 c3 w2.heap.size w3.heap.size rz rz _ (by exact HO4.out) (by exact HS4.out) (by omega) (by omega) (by omega) (by omega)).mono ?_
    rintro e wz ⟨rfl, hbz⟩
    go_wp2_with (fail)
    go_ret
    exact ⟨rfl, HB4.out.trans (hbz.mono (by omega))⟩
  have tb : (h == who) = false := by simp [hh]
  obtain ⟨e1, e2, e3⟩ : rh = h ∧ rf = f ∧ rz = zs.filter (· ≠ who) := by
    rcases free_ok HRES.out (free_valid HRES.out).1 (free_valid HRES.out).2 with ⟨h1, _⟩ | ⟨h1, _⟩ | ⟨_, _, h1⟩
    · exact absurd h1 hh
    · exact absurd h1 hh
    · exact h1
  subst e1 e2
  have HE3 := Lib.hid e3
  have hrl : rz.length ≤ 6 := by rw [e3]; exact Nat.le_trans (List.length_filter_le _ _) hlen
  have te : (rh == rh) = true := by simp
  have te2 : (rf == rf) = true := by simp
  obtain ⟨i0, hi0, hz0', hza, hzb⟩ := info_parts int_info
  clear hh e3
  go_wp2_with (fail)
  have HS : LvRel w4 who zs 0 (.slice (some ⟨w4.heap.size, 0, none⟩) 0 0) (w4.alloc (.cells #[] 3)) :=
    ⟨_, _, rfl, own_lit (g := w4.heap.size) (n := 0) (xs := []) w4 rfl (Nat.le_refl _) rfl (by unfold maxLen; omega), (Below.refl _ _).alloc (Nat.le_refl _) _⟩
  clear l4 i4 q4
  go_loopw [9, 10] (fun v i wr => ∃ k : Nat, k ≤ zs.length ∧ i = .int .i64 k ∧ LvRel w4 who zs k v wr) (fun _ i _ => zs.length - (intOf i).toNat)
  case atStart => exact ⟨0, Nat.zero_le _, rfl, HS⟩
  case round =>
    clear HS
    obtain ⟨k, hk, rfl, A3, c3, rfl, HOy, HBl⟩ := hrel
    have hylen : ((zs.take k).filter (· ≠ who)).length ≤ 6 := Nat.le_trans (List.length_filter_le _ _) (by rw [List.length_take]; omega)
    generalize hyy : (zs.take k).filter (· ≠ who) = ys at HOy hylen ⊢
    have HY := Lib.hid hyy
    have HO := Lib.hid HOy
    have HBB := Lib.hid HBl
    have hcapy := own_caps HOy
    have lr := (HL4.out.below HBl hy1).cell
    have ir := (HI4.out.below HBl hy2).cell
    have HRR := Lib.hid (HR4.out.below (HBl.mono (by omega)))
    have hszr : w4.heap.size ≤ wr.heap.size := HBl.size
    clear hyy HOy HBl
    by_cases hlt : k < zs.length
    · obtain ⟨ad, u, hA, _, hx, hcell⟩ := HRR.out.at_ hlt
      subst hA
      obtain ⟨z, hz, rfl⟩ := ints_at hx
      have HZ := Lib.hid hz
      clear hz hx
      by_cases he : z = who
      · have tb : (z != who) = false := by simp [he]
        have HE := Lib.hid he
        clear he
        go_wp2
        go_roundw
        case rel => exact ⟨k + 1, by omega, by go_num, A3, c3, by rw [filter_skip HZ.out HE.out, HY.out], by rw [filter_skip HZ.out HE.out, HY.out]; exact HO.out, HBB.out⟩
        case measure => simp [intOf]; omega
      · have tb : (z != who) = true := by simp [he]
        go_wp2_with (at_builtin
                     refine wpList_append_any _ rfl (.tmp 73) (.tmp 79) _ rfl w4.heap.size 3 i0 _ 1 8 Tryd.underlying23 hi0 hz0' (by assumption) hzb rfl (by omega) (.slice A3 ys.length c3) ys.length (ints ys) rfl
                       (World.ownsRow.alloc HO.out _) (wr.heap.size + 1) (some ⟨wr.heap.size, 0, none⟩) 1 1 (ints [z]) rfl (reads_new wr rfl rfl) ints_one (by unfold maxLen; omega) (by omega) (by simp; omega) ?_
                     intro v5 w5 hown5 hg5 hat5
                     rw [ints_append] at hown5
                     obtain ⟨A5, c5, rfl⟩ := own_slice hown5
                     have HO5 := Lib.hid hown5
                     have HB5 : Hid (Below w4.heap.size w4 w5) := Lib.hid (Below.grown (HBB.out.alloc (by omega) (.cells #[.int .i64 z] 3)) hg5 (by simp; omega) (fun k hk => (World.ownsRow.lt HO.out k hk).1))
                     clear hown5 hg5 hat5)
        go_roundw
        case rel =>
          refine ⟨k + 1, by omega, by go_num, A5, c5, ?_, ?_, HB5.out⟩
          · rw [filter_step HZ.out he, HY.out, List.length_append, List.length_singleton]
          · rw [filter_step HZ.out he, HY.out, List.length_append, List.length_singleton]; exact HO5.out
        case measure => simp [intOf]; omega
    · have HQ : Hid (zs.filter (· ≠ who) = ys) := Lib.hid (by
        have h1 := HY.out
        rwa [List.take_of_length_le (by omega)] at h1)
      have hq : eqB rz ys = true := by rw [HE3.out, HQ.out]; exact eqB_self _
      go_wp2_with (fail)
      refine (sameInts_any A2 A3 rz.length ys.length c2 c3 w2.heap.size wr.heap.size rz ys _ (by exact HO4.out.below (HBB.out.mono (by omega))) (by exact Reads.of_own HO.out) (by unfold maxLen; omega) (by unfold maxLen; omega)).mono ?_
      rintro e w6 ⟨rfl, hb6⟩
      go_wp2_with (fail)
      go_ret
      exact ⟨rfl, HB4.out.trans ((HBB.out.trans (hb6.mono (by omega))).mono HB4.out.size)⟩
end Go.Proofs.YtohbmkppfbbngaaDoor
