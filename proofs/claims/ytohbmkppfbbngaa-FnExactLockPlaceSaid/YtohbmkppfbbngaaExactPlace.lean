/-
  What is proved: laws.FnExactLockPlace returns true for every lock and number, and leaves its argument as it was. No condition.
-/
import Derived.Test.YtohbmkppfbbngaaPlace
import Derived.Test.YtohbmkppfbbngaaCopy
import Derived.Deep.RegionWith
namespace Go.Proofs.Ytohbmkppfbbngaa
open Go.RowKit

set_option maxHeartbeats 1000000 in
theorem exactPlace_any (h f who : Int) (A : Option Addr) (n c B : Nat) (zs : List Int) (w : World) (hr : Reads w B 1 A n (ints zs)) (hB : B ≤ w.heap.size) (hnc : n ≤ c) (hc : c ≤ maxLen) :
    Calls Try.prog 4 #[.agg #[.int .i64 h, .int .i64 f, .slice A n c], .int .i64 who] w fun e w' => e = .returned (.bool true) ∧ Below w.heap.size w w' := by
  have HR := Lib.hid hr
  clear hr
  have hn : n ≤ maxLen := by omega
  by_cases hs : szB n 1048576 < 0
  · go_enter Try.func4, Try.ntmps4
    go_wp2_with (go_at_call 7; refine (szLock_any _ _ _ _ _ _ _ hn (by omega) (by omega)).mono ?_; rintro e w1 ⟨rfl, hb⟩)
    go_ret
    exact ⟨rfl, ((Below.refl _ _).alloc (Nat.le_refl _) _).trans (hb.mono (by simp))⟩
  · have hn2 : n ≤ 1048576 := by unfold szB at hs; split at hs <;> omega
    go_enter Try.func4, Try.ntmps4
    go_wp2_with (fail)
    refine (szLock_any h f A n c 1048576 _ hn (by omega) (by omega)).mono ?_
    rintro e w1 ⟨rfl, hb1⟩
    have HR1 := Lib.hid ((HR.out.alloc hB (.cells #[.int .i64 h, .int .i64 f, .slice A n c] 24)).below (hb1.mono (by simp; omega)))
    have HB1 : Hid (Below w.heap.size w w1) := Lib.hid (((Below.refl _ _).alloc (Nat.le_refl _) _).trans (hb1.mono (by simp)))
    have HK1 := Lib.hid ((Blk.new w 24 #[.int .i64 h, .int .i64 f, .slice A n c]).below hb1 (by simp))
    have hz1 := HK1.out.lt
    have k1 := HK1.out.cell
    clear hb1
    go_wp2_with (fail)
    refine (toLock_any h f A n c B zs _ HR1.out (by omega) hn2).mono ?_
    rintro e w2 ⟨⟨A2, n2, c2, rfl, hown2⟩, hb2⟩
    have hcap2 := own_caps hown2
    have HR2 := Lib.hid (Reads.of_own hown2)
    have HRa2 := Lib.hid (HR1.out.below (hb2.mono (by omega)))
    have HB2 : Hid (Below w.heap.size w w2) := Lib.hid (HB1.out.trans (hb2.mono (by omega)))
    have HK2 := Lib.hid (HK1.out.below hb2 (by omega))
    have hz2 := HK2.out.lt
    clear hb2 k1 hown2 HR1 HB1 HK1
    go_wp2_with (fail)
    refine (specPlace_any h f who A2 n2 c2 _ zs _ HR2.out (Nat.le_refl _) hcap2.1 hcap2.2).mono ?_
    rintro e w3 ⟨rfl, hb3⟩
    have HRa3 := Lib.hid (HRa2.out.below (hb3.mono (by omega)))
    have HB3 : Hid (Below w.heap.size w w3) := Lib.hid (HB2.out.trans (hb3.mono (by omega)))
    have HK3 := Lib.hid (HK2.out.below hb3 (by omega))
    have hz3 := HK3.out.lt
    have k3 := HK3.out.cell
    clear hb3 HR2 HB2 HK2 HRa2 hcap2 hz2 hz1
    go_wp2_with (fail)
    refine (toLock_any h f A n c B zs _ HRa3.out (by omega) hn2).mono ?_
    rintro e w4 ⟨⟨A4, n4, c4, rfl, hown4⟩, hb4⟩
    have hcap4 := own_caps hown4
    have HR4 := Lib.hid (Reads.of_own hown4)
    have HRa4 := Lib.hid (HRa3.out.below (hb4.mono (by omega)))
    have HB4 : Hid (Below w.heap.size w w4) := Lib.hid (HB3.out.trans (hb4.mono (by omega)))
    have HK4 := Lib.hid (HK3.out.below hb4 (by omega))
    have hz4 := HK4.out.lt
    clear hb4 k3 hown4 HRa3 HB3 HK3 hz3
    go_wp2_with (fail)
    refine (implPlace_any h f who A4 n4 c4 _ zs _ (HR4.out.alloc (Nat.le_refl _) _) (by simp) hcap4.1 hcap4.2).mono ?_
    rintro e w5 ⟨rfl, hb5⟩
    have HR5 := Lib.hid ((HR4.out.alloc (Nat.le_refl _) (.cells #[.int .i64 h, .int .i64 f, .slice A4 n4 c4] 27)).below (hb5.mono (by simp)))
    have HRa5 := Lib.hid ((HRa4.out.alloc (by omega) (.cells #[.int .i64 h, .int .i64 f, .slice A4 n4 c4] 27)).below (hb5.mono (by simp; omega)))
    have HB5 : Hid (Below w.heap.size w w5) := Lib.hid ((HB4.out.alloc (by omega) _).trans (hb5.mono (by simp; omega)))
    have HK5 := Lib.hid ((HK4.out.alloc _).below hb5 (by simp; omega))
    have HX5 := Lib.hid ((Blk.new w4 27 #[.int .i64 h, .int .i64 f, .slice A4 n4 c4]).below hb5 (by simp))
    have hz5 := HX5.out.lt
    have k5 := HK5.out.cell
    have x5 := HX5.out.cell
    have hcap5 := hcap4.2
    have hcap6 := hcap4.1
    clear hb5 HR4 HRa4 HB4 HK4 hcap4
    have hv : (lpI h f zs who != lpI h f zs who) = false := by simp
    have he : eqLB h f zs h f zs = true := by simp [eqLB]
    go_wp2_with (fail)
    go_region_with (first
      | (go_at_call 9
         refine (toLock_any h f A n c B zs _ HRa5.out.drew (by simp; omega) hn2).mono ?_
         rintro e w6 ⟨⟨A6, n6, c6, rfl, hown6⟩, hb6⟩
         have hcap7 := own_caps hown6
         have HR6 := Lib.hid (Reads.of_own hown6)
         have HRx6 := Lib.hid (HR5.out.drew.below (hb6.mono (by simp; omega)))
         have HB6 : Hid (Below w.heap.size w w6) := Lib.hid (HB5.out.drew.trans (hb6.mono (by simp; omega)))
         have HX6 := Lib.hid (HX5.out.drew.below hb6 (by simp; omega))
         have hz6 := HX6.out.lt
         have x6 := HX6.out.cell
         have hsz6 := hb6.size
         clear hb6 hown6)
      | (go_at_call 11
         refine (eqLock_any h f h f A4 A6 n4 n6 c4 c6 _ _ zs zs _ HRx6.out HR6.out (by omega) (Nat.le_refl _) (by omega) (by omega)).mono ?_
         rintro e w7 ⟨rfl, hb7⟩))
    all_goals
      go_wp2
      go_ret
      exact ⟨rfl, HB6.out.trans (hb7.mono (by omega))⟩
end Go.Proofs.Ytohbmkppfbbngaa
