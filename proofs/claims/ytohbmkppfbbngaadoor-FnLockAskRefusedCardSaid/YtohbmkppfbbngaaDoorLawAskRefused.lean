/-
  What is proved: laws.FnLockAskRefused returns true for every code, and nothing that was there changes. Conditions: the code reads as bytes, and the variable errors.errorType holds the handle of the type error.
-/
import Derived.Test.YtohbmkppfbbngaaDoorGives
import Derived.Test.YtohbmkppfbbngaaDoorLockFacts
import Derived.Deep.RegionHeld3
import Derived.Deep.RegionLaw
import Derived.BigRegion
namespace Go.Proofs.YtohbmkppfbbngaaDoor
open Go.RowKit

set_option maxRecDepth 100000 in
set_option maxHeartbeats 4000000 in
theorem lawAskRefused_any (A : Option Addr) (n c B : Nat) (bs : List Int) (w : World) (hr : Reads w B 1 A n (bys bs)) (hB : B ≤ w.heap.size) (hb : Bytes bs) (hnc : n ≤ c) (hc : c ≤ maxLen) (hg : Held w) :
    Calls Tryd.prog 7 #[.slice A n c] w fun e w' => e = .returned (.bool true) ∧ Below w.heap.size w w' := by
  have HR := Lib.hid hr
  have HB := Lib.hid hb
  have HG := Lib.hid hg
  clear hr hb hg
  have hc' : c ≤ 9223372036854775807 := by unfold maxLen at hc; omega
  by_cases hn : 1048576 < n
  · go_enter Tryd.func7, Tryd.ntmps7
    go_wp2_with (fail)
    go_ret
    exact ⟨rfl, Below.refl _ _⟩
  go_enter Tryd.func7, Tryd.ntmps7
  go_wp2_with (fail)
  refine (drawAskLock_any A n c B bs w HR.out hB HB.out hnc hc).mono ?_
  rintro e w1 ⟨h, f, zs, A1, c1, who, rfl, hown1, hb1, hdb, hw0, hw1⟩
  have hcap := own_caps hown1
  have hlen : zs.length ≤ 6 := hdb.2.2.2.2
  have hd := hdb
  obtain ⟨hh0, hh1, hf0, hf1, _⟩ := hdb
  obtain ⟨rh, rf, rz, ro, hres⟩ : ∃ rh rf rz ro, askP h f zs who = ((rh, rf, rz), ro) := ⟨_, _, _, _, rfl⟩
  have HRES := Lib.hid hres
  have HR1 := Lib.hid (Reads.of_own hown1)
  have HOWN1 := Lib.hid hown1
  have HB1 := Lib.hid hb1
  have G1 : Hid (Held w1) := Lib.hid (HG.out.below hb1)
  have hz1 : w.heap.size ≤ w1.heap.size := hb1.size
  clear hown1 hb1 hres hd
  go_wp2_with (fail)
  refine (implAsk_r HRES.out A1 zs.length c1 w1.heap.size _ (by exact HR1.out.alloc (Nat.le_refl _) _) (by simp) hcap.1 hcap.2 (by omega) (by exact G1.out.below ((Below.refl _ _).alloc (Nat.le_refl _) _))).mono ?_
  rintro e w2 ⟨A2, c2, rfl, hown2, hb2⟩
  have HL2 := Lib.hid ((Blk.new w1 25 #[.int .i64 h, .int .i64 f, .slice A1 zs.length c1]).below hb2 (by simp))
  have HR2 := Lib.hid ((HR1.out.alloc (Nat.le_refl _) (.cells #[.int .i64 h, .int .i64 f, .slice A1 zs.length c1] 25)).below (hb2.mono (by simp)))
  have HB2 : Hid (Below w.heap.size w w2) := Lib.hid ((HB1.out.alloc hz1 _).trans (hb2.mono (by simp; omega)))
  have HO2 := Lib.hid (Reads.of_own hown2)
  have hcap2 := own_caps hown2
  have l2 := HL2.out.cell
  have hz2 := HL2.out.lt
  clear hown2 hb2 HR1 HB1
  go_wp2_with (fail)
  refine (specAsk_r HRES.out A1 zs.length c1 w1.heap.size _ (by exact HR2.out.alloc (by omega) _) (by simp; omega) hcap.1 hcap.2).mono ?_
  rintro e w3 ⟨A3, c3, rfl, hown3, hb3⟩
  have HL3 := Lib.hid ((HL2.out.alloc (.cells #[.int .i64 rh, .int .i64 rf, .slice A2 rz.length c2] 25)).below hb3 (by simp; omega))
  have HI3 := Lib.hid ((Blk.new w2 25 #[.int .i64 rh, .int .i64 rf, .slice A2 rz.length c2]).below hb3 (by simp))
  have HR3 := Lib.hid ((HR2.out.alloc (by omega) (.cells #[.int .i64 rh, .int .i64 rf, .slice A2 rz.length c2] 25)).below (hb3.mono (by simp; omega)))
  have HO3 := Lib.hid ((HO2.out.alloc (Nat.le_refl _) (.cells #[.int .i64 rh, .int .i64 rf, .slice A2 rz.length c2] 25)).below (hb3.mono (by simp)))
  have HB3 : Hid (Below w.heap.size w w3) := Lib.hid ((HB2.out.alloc (by omega) _).trans (hb3.mono (by simp; omega)))
  have HS3 := Lib.hid (Reads.of_own hown3)
  have hcap3 := own_caps hown3
  have l3 := HL3.out.cell
  have i3 := HI3.out.cell
  have hz3 := HI3.out.lt
  have hz3' := HL3.out.lt
  clear hown3 hb3 HL2 HR2 HO2 HB2 l2
  have ho : (ro != ro) = false := by simp
  have ho2 : (ro == ro) = true := by simp
  have he : eqLB rh rf rz rh rf rz = true := by simp [eqLB]
  go_wp2_with (fail)
  refine (sameLock_any rh rf rh rf A2 A3 rz.length rz.length c2 c3 w2.heap.size w3.heap.size rz rz _ (by exact HO3.out.alloc (by omega) _) (by exact HS3.out.alloc (Nat.le_refl _) _) (by simp; omega) (by simp) (by omega) (by omega)).mono ?_
  rintro e w4 ⟨rfl, hb4⟩
  have HL4 := Lib.hid ((HL3.out.alloc (.cells #[.int .i64 rh, .int .i64 rf, .slice A3 rz.length c3] 25)).below hb4 (by simp; omega))
  have HI4 := Lib.hid ((HI3.out.alloc (.cells #[.int .i64 rh, .int .i64 rf, .slice A3 rz.length c3] 25)).below hb4 (by simp; omega))
  have HW4 := Lib.hid ((Blk.new w3 25 #[.int .i64 rh, .int .i64 rf, .slice A3 rz.length c3]).below hb4 (by simp))
  have HR4 := Lib.hid ((HR3.out.alloc (by omega) (.cells #[.int .i64 rh, .int .i64 rf, .slice A3 rz.length c3] 25)).below (hb4.mono (by simp; omega)))
  have HO4 := Lib.hid ((HO3.out.alloc (by omega) (.cells #[.int .i64 rh, .int .i64 rf, .slice A3 rz.length c3] 25)).below (hb4.mono (by simp; omega)))
  have HS4 := Lib.hid ((HS3.out.alloc (Nat.le_refl _) (.cells #[.int .i64 rh, .int .i64 rf, .slice A3 rz.length c3] 25)).below (hb4.mono (by simp)))
  have HB4 : Hid (Below w.heap.size w w4) := Lib.hid ((HB3.out.alloc (by omega) _).trans (hb4.mono (by simp; omega)))
  have l4 := HL4.out.cell
  have i4 := HI4.out.cell
  have q4 := HW4.out.cell
  have hy1 := HL4.out.lt
  have hy2 := HI4.out.lt
  have hy3 := HW4.out.lt
  clear hb4 HL3 HI3 HR3 HO3 HS3 HB3 l3 i3
  go_wp2_with (fail)
  refine (specValid_any h f A1 zs.length c1 w1.heap.size zs _ (by exact HR4.out) (by omega) hcap.1 hcap.2).mono ?_
  rintro e w5 ⟨rfl, hb5⟩
  have HL5 := Lib.hid (HL4.out.below hb5 HL4.out.lt)
  have HI5 := Lib.hid (HI4.out.below hb5 HI4.out.lt)
  have HW5 := Lib.hid (HW4.out.below hb5 HW4.out.lt)
  have HR5 := Lib.hid (HR4.out.below (hb5.mono (by omega)))
  have HO5 := Lib.hid (HO4.out.below (hb5.mono (by omega)))
  have HS5 := Lib.hid (HS4.out.below (hb5.mono (by omega)))
  have HB5 : Hid (Below w.heap.size w w5) := Lib.hid (HB4.out.trans (hb5.mono (by omega)))
  have l5 := HL5.out.cell
  have i5 := HI5.out.cell
  have q5 := HW5.out.cell
  have hya5 := HL5.out.lt
  have hyb5 := HI5.out.lt
  have hyc5 := HW5.out.lt
  clear hb5 HL4 HI4 HW4 HR4 HO4 HS4 HB4 l4 i4 q4
  cases hl : lvB h f zs
  · go_wp2_with (fail)
    refine (sameLock_any rh rf rh rf A2 A3 rz.length rz.length c2 c3 w2.heap.size w3.heap.size rz rz _ (by exact HO5.out) (by exact HS5.out) (by omega) (by omega) (by omega) (by omega)).mono ?_
    rintro e wz ⟨rfl, hbz⟩
    go_wp2_with (fail)
    go_ret
    exact ⟨rfl, HB5.out.trans (hbz.mono (by omega))⟩
  by_cases w0 : who < 0
  · go_wp2_with (fail)
    refine (sameLock_any rh rf rh rf A2 A3 rz.length rz.length c2 c3 w2.heap.size w3.heap.size rz rz _ (by exact HO5.out) (by exact HS5.out) (by omega) (by omega) (by omega) (by omega)).mono ?_
    rintro e wz ⟨rfl, hbz⟩
    go_wp2_with (fail)
    go_ret
    exact ⟨rfl, HB5.out.trans (hbz.mono (by omega))⟩
  by_cases w4' : 4 ≤ who
  · go_wp2_with (fail)
    refine (sameLock_any rh rf rh rf A2 A3 rz.length rz.length c2 c3 w2.heap.size w3.heap.size rz rz _ (by exact HO5.out) (by exact HS5.out) (by omega) (by omega) (by omega) (by omega)).mono ?_
    rintro e wz ⟨rfl, hbz⟩
    go_wp2_with (fail)
    go_ret
    exact ⟨rfl, HB5.out.trans (hbz.mono (by omega))⟩
  have HV := Lib.hid hl
  have HP := Lib.hid (lpI_pos hl (who := who) (by omega))
  have HA := Lib.hid (ask_ok HRES.out hl (by omega))
  clear hl
  go_wp2_with (fail)
  refine (implPlace_any h f who A1 zs.length c1 w1.heap.size zs _ (by exact HR5.out) (by omega) hcap.1 hcap.2).mono ?_
  rintro e w6 ⟨rfl, hb6⟩
  have HL6 := Lib.hid (HL5.out.below hb6 HL5.out.lt)
  have HI6 := Lib.hid (HI5.out.below hb6 HI5.out.lt)
  have HW6 := Lib.hid (HW5.out.below hb6 HW5.out.lt)
  have HR6 := Lib.hid (HR5.out.below (hb6.mono (by omega)))
  have HO6 := Lib.hid (HO5.out.below (hb6.mono (by omega)))
  have HS6 := Lib.hid (HS5.out.below (hb6.mono (by omega)))
  have HB6 : Hid (Below w.heap.size w w6) := Lib.hid (HB5.out.trans (hb6.mono (by omega)))
  have l6 := HL6.out.cell
  have i6 := HI6.out.cell
  have q6 := HW6.out.cell
  have hya6 := HL6.out.lt
  have hyb6 := HI6.out.lt
  have hyc6 := HW6.out.lt
  clear hb6 HL5 HI5 HW5 HR5 HO5 HS5 HB5 l5 i5 q5
  rcases HA.out with ⟨hro, hno, _⟩ | ⟨hro, hyes, e1, e2, e3⟩
  · have hp : lpI h f zs who < 0 := by
      have := HP.out
      rcases Int.lt_or_le (lpI h f zs who) 0 with h1 | h1
      · exact h1
      · rcases this.1 h1 with h2 | h2
        · exact absurd (.inl h2) hno
        · exact absurd (.inr (.inl h2)) hno
    have h9 : f + zs.length < 99 := by
      rcases Int.lt_or_le (f + zs.length) 99 with h1 | h1
      · exact h1
      · exact absurd (.inr (.inr h1)) hno
    have hd1 : decide (0 ≤ lpI h f zs who) = false := by simp; omega
    have hd2 : decide (99 ≤ f + (zs.length : Int)) = false := by simp; omega
    have HN := Lib.hid hno
    clear hno
    subst hro
    go_wp2_with (fail)
    go_ret
    exact ⟨rfl, HB6.out⟩
  · subst hro e1 e2 e3
    by_cases hp : 0 ≤ lpI rh rf rz who
    · have hd1 : decide (0 ≤ lpI rh rf rz who) = true := by simp; omega
      go_wp2_with (fail)
      refine (sameLock_any rh rf rh rf A2 A1 rz.length rz.length c2 c1 w2.heap.size w1.heap.size rz rz _ (by exact HO6.out) (by exact HR6.out) (by omega) (by omega) (by omega) (by omega)).mono ?_
      rintro e w7 ⟨rfl, hb7⟩
      go_wp2_with (fail)
      go_ret
      exact ⟨rfl, HB6.out.trans (hb7.mono (by omega))⟩
    · have h9 : 99 ≤ rf + rz.length := by
        rcases hyes with h1 | h1 | h1
        · exact absurd (HP.out.2 (.inl h1)) hp
        · exact absurd (HP.out.2 (.inr h1)) hp
        · exact h1
      have HY := Lib.hid hyes
      have hd1 : decide (0 ≤ lpI rh rf rz who) = false := by simp; omega
      have hd2 : decide (99 ≤ rf + (rz.length : Int)) = true := by simp; omega
      clear hyes
      go_wp2_with (fail)
      refine (sameLock_any rh rf rh rf A2 A1 rz.length rz.length c2 c1 w2.heap.size w1.heap.size rz rz _ (by exact HO6.out) (by exact HR6.out) (by omega) (by omega) (by omega) (by omega)).mono ?_
      rintro e w7 ⟨rfl, hb7⟩
      go_wp2_with (fail)
      go_ret
      exact ⟨rfl, HB6.out.trans (hb7.mono (by omega))⟩
end Go.Proofs.YtohbmkppfbbngaaDoor
