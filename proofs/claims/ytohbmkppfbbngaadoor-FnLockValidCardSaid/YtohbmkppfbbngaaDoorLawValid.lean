/-
  What is proved: laws.FnLockValid returns true for every code, and nothing that was there changes. Conditions: the code reads as bytes, and the variable errors.errorType holds the handle of the type error.
-/
import Derived.Test.YtohbmkppfbbngaaDoorGives
import Derived.Test.YtohbmkppfbbngaaDoorLockFacts
import Derived.Deep.RegionHeld3
import Derived.Deep.RegionLaw
import Derived.BigRegion
namespace Go.Proofs.YtohbmkppfbbngaaDoor
open Go.RowKit

set_option maxRecDepth 100000 in
set_option maxHeartbeats 4000000 in
theorem lawValid_any (A : Option Addr) (n c B : Nat) (bs : List Int) (w : World) (hr : Reads w B 1 A n (bys bs)) (hB : B ≤ w.heap.size) (hb : Bytes bs) (hnc : n ≤ c) (hc : c ≤ maxLen) (hg : Held w) :
    Calls Tryd.prog 12 #[.slice A n c] w fun e w' => e = .returned (.bool true) ∧ Below w.heap.size w w' := by
  have HR := Lib.hid hr
  have HB := Lib.hid hb
  have HG := Lib.hid hg
  clear hr hb hg
  have hc' : c ≤ 9223372036854775807 := by unfold maxLen at hc; omega
  by_cases hn : 1048576 < n
  · go_enter Tryd.func12, Tryd.ntmps12
    go_wp2_with (fail)
    go_ret
    exact ⟨rfl, Below.refl _ _⟩
  go_enter Tryd.func12, Tryd.ntmps12
  go_wp2_with (fail)
  refine (drawFreeLock_any A n c B bs w HR.out hB HB.out hnc hc).mono ?_
  rintro e w1 ⟨h, f, zs, A1, c1, who, rfl, hown1, hb1, hdb, hw0, hw1⟩
  have hcap := own_caps hown1
  have hlen : zs.length ≤ 6 := hdb.2.2.2.2
  have hd := hdb
  obtain ⟨hh0, hh1, hf0, hf1, _⟩ := hdb
  obtain ⟨rh, rf, rz, ro, hres⟩ : ∃ rh rf rz ro, freeP h f zs who = ((rh, rf, rz), ro) := ⟨_, _, _, _, rfl⟩
  have HRES := Lib.hid hres
  have HR1 := Lib.hid (Reads.of_own hown1)
  have HOWN1 := Lib.hid hown1
  have HB1 := Lib.hid hb1
  have G1 : Hid (Held w1) := Lib.hid (HG.out.below hb1)
  have hz1 : w.heap.size ≤ w1.heap.size := hb1.size
  clear hown1 hb1 hres hd
  go_wp2_with (fail)
  refine (implFree_r HRES.out A1 zs.length c1 w1.heap.size _ (by exact HR1.out.alloc (Nat.le_refl _) _) (by simp) hcap.1 hcap.2 (by omega) (by exact G1.out.below ((Below.refl _ _).alloc (Nat.le_refl _) _))).mono ?_
  rintro e w2 ⟨A2, c2, rfl, hown2, hb2⟩
  have HL2 := Lib.hid ((Blk.new w1 25 #[.int .i64 h, .int .i64 f, .slice A1 zs.length c1]).below hb2 (by simp))
  have HR2 := Lib.hid ((HR1.out.alloc (Nat.le_refl _) (.cells #[.int .i64 h, .int .i64 f, .slice A1 zs.length c1] 25)).below (hb2.mono (by simp)))
  have HB2 : Hid (Below w.heap.size w w2) := Lib.hid ((HB1.out.alloc hz1 _).trans (hb2.mono (by simp; omega)))
  have HO2 := Lib.hid (Reads.of_own hown2)
  have hcap2 := own_caps hown2
  have l2 := HL2.out.cell
  have hz2 := HL2.out.lt
  clear hown2 hb2 HR1 HB1
  go_wp2_with (fail)
  refine (specFree_r HRES.out A1 zs.length c1 w1.heap.size _ (by exact HR2.out.alloc (by omega) _) (by simp; omega) hcap.1 hcap.2).mono ?_
  rintro e w3 ⟨A3, c3, rfl, hown3, hb3⟩
  have HL3 := Lib.hid ((HL2.out.alloc (.cells #[.int .i64 rh, .int .i64 rf, .slice A2 rz.length c2] 25)).below hb3 (by simp; omega))
  have HI3 := Lib.hid ((Blk.new w2 25 #[.int .i64 rh, .int .i64 rf, .slice A2 rz.length c2]).below hb3 (by simp))
  have HR3 := Lib.hid ((HR2.out.alloc (by omega) (.cells #[.int .i64 rh, .int .i64 rf, .slice A2 rz.length c2] 25)).below (hb3.mono (by simp; omega)))
  have HO3 := Lib.hid ((HO2.out.alloc (Nat.le_refl _) (.cells #[.int .i64 rh, .int .i64 rf, .slice A2 rz.length c2] 25)).below (hb3.mono (by simp)))
  have HB3 : Hid (Below w.heap.size w w3) := Lib.hid ((HB2.out.alloc (by omega) _).trans (hb3.mono (by simp; omega)))
  have HS3 := Lib.hid (Reads.of_own hown3)
  have hcap3 := own_caps hown3
  have l3 := HL3.out.cell
  have i3 := HI3.out.cell
  have hz3 := HI3.out.lt
  have hz3' := HL3.out.lt
  clear hown3 hb3 HL2 HR2 HO2 HB2 l2
  have ho : (ro != ro) = false := by simp
  have ho2 : (ro == ro) = true := by simp
  have he : eqLB rh rf rz rh rf rz = true := by simp [eqLB]
  go_wp2_with (fail)
  refine (sameLock_any rh rf rh rf A2 A3 rz.length rz.length c2 c3 w2.heap.size w3.heap.size rz rz _ (by exact HO3.out.alloc (by omega) _) (by exact HS3.out.alloc (Nat.le_refl _) _) (by simp; omega) (by simp) (by omega) (by omega)).mono ?_
  rintro e w4 ⟨rfl, hb4⟩
  have HL4 := Lib.hid ((HL3.out.alloc (.cells #[.int .i64 rh, .int .i64 rf, .slice A3 rz.length c3] 25)).below hb4 (by simp; omega))
  have HI4 := Lib.hid ((HI3.out.alloc (.cells #[.int .i64 rh, .int .i64 rf, .slice A3 rz.length c3] 25)).below hb4 (by simp; omega))
  have HW4 := Lib.hid ((Blk.new w3 25 #[.int .i64 rh, .int .i64 rf, .slice A3 rz.length c3]).below hb4 (by simp))
  have HR4 := Lib.hid ((HR3.out.alloc (by omega) (.cells #[.int .i64 rh, .int .i64 rf, .slice A3 rz.length c3] 25)).below (hb4.mono (by simp; omega)))
  have HO4 := Lib.hid ((HO3.out.alloc (by omega) (.cells #[.int .i64 rh, .int .i64 rf, .slice A3 rz.length c3] 25)).below (hb4.mono (by simp; omega)))
  have HS4 := Lib.hid ((HS3.out.alloc (Nat.le_refl _) (.cells #[.int .i64 rh, .int .i64 rf, .slice A3 rz.length c3] 25)).below (hb4.mono (by simp)))
  have HB4 : Hid (Below w.heap.size w w4) := Lib.hid ((HB3.out.alloc (by omega) _).trans (hb4.mono (by simp; omega)))
  have l4 := HL4.out.cell
  have i4 := HI4.out.cell
  have q4 := HW4.out.cell
  have hy1 := HL4.out.lt
  have hy2 := HI4.out.lt
  have hy3 := HW4.out.lt
  clear hb4 HL3 HI3 HR3 HO3 HS3 HB3 l3 i3
  go_wp2_with (fail)
  refine (specValid_any h f A1 zs.length c1 w1.heap.size zs _ (by exact HR4.out) (by omega) hcap.1 hcap.2).mono ?_
  rintro e w5 ⟨rfl, hb5⟩
  have HL5 := Lib.hid (HL4.out.below hb5 HL4.out.lt)
  have HI5 := Lib.hid (HI4.out.below hb5 HI4.out.lt)
  have HW5 := Lib.hid (HW4.out.below hb5 HW4.out.lt)
  have HR5 := Lib.hid (HR4.out.below (hb5.mono (by omega)))
  have HO5 := Lib.hid (HO4.out.below (hb5.mono (by omega)))
  have HS5 := Lib.hid (HS4.out.below (hb5.mono (by omega)))
  have HB5 : Hid (Below w.heap.size w w5) := Lib.hid (HB4.out.trans (hb5.mono (by omega)))
  have l5 := HL5.out.cell
  have i5 := HI5.out.cell
  have q5 := HW5.out.cell
  have hya5 := HL5.out.lt
  have hyb5 := HI5.out.lt
  have hyc5 := HW5.out.lt
  clear hb5 HL4 HI4 HW4 HR4 HO4 HS4 HB4 l4 i4 q4
  cases hl : lvB h f zs
  · go_wp2_with (fail)
    refine (sameLock_any rh rf rh rf A2 A3 rz.length rz.length c2 c3 w2.heap.size w3.heap.size rz rz _ (by exact HO5.out) (by exact HS5.out) (by omega) (by omega) (by omega) (by omega)).mono ?_
    rintro e wz ⟨rfl, hbz⟩
    go_wp2_with (fail)
    go_ret
    exact ⟨rfl, HB5.out.trans (hbz.mono (by omega))⟩
  by_cases w0 : who < 0
  · go_wp2_with (fail)
    refine (sameLock_any rh rf rh rf A2 A3 rz.length rz.length c2 c3 w2.heap.size w3.heap.size rz rz _ (by exact HO5.out) (by exact HS5.out) (by omega) (by omega) (by omega) (by omega)).mono ?_
    rintro e wz ⟨rfl, hbz⟩
    go_wp2_with (fail)
    go_ret
    exact ⟨rfl, HB5.out.trans (hbz.mono (by omega))⟩
  by_cases w4' : 4 ≤ who
  · go_wp2_with (fail)
    refine (sameLock_any rh rf rh rf A2 A3 rz.length rz.length c2 c3 w2.heap.size w3.heap.size rz rz _ (by exact HO5.out) (by exact HS5.out) (by omega) (by omega) (by omega) (by omega)).mono ?_
    rintro e wz ⟨rfl, hbz⟩
    go_wp2_with (fail)
    go_ret
    exact ⟨rfl, HB5.out.trans (hbz.mono (by omega))⟩
  have HV := Lib.hid hl
  obtain ⟨xh, xf, xz, xo, hx⟩ : ∃ xh xf xz xo, askP h f zs who = ((xh, xf, xz), xo) := ⟨_, _, _, _, rfl⟩
  have HX := Lib.hid hx
  clear hx
  have G5 : Hid (Held w5) := Lib.hid (HG.out.below HB5.out)
  go_wp2_with (fail)
  refine (implAsk_r HX.out A1 zs.length c1 w1.heap.size _ (by exact HR5.out) (by omega) hcap.1 hcap.2 (by omega) (by exact G5.out)).mono ?_
  rintro e w6 ⟨AX, cX, rfl, hown6, hb6⟩
  have HN6 := Lib.hid (Reads.of_own hown6)
  have hcapX := own_caps hown6
  clear hown6
  have HL6 := Lib.hid (HL5.out.below hb6 HL5.out.lt)
  have HI6 := Lib.hid (HI5.out.below hb6 HI5.out.lt)
  have HW6 := Lib.hid (HW5.out.below hb6 HW5.out.lt)
  have HR6 := Lib.hid (HR5.out.below (hb6.mono (by omega)))
  have HO6 := Lib.hid (HO5.out.below (hb6.mono (by omega)))
  have HS6 := Lib.hid (HS5.out.below (hb6.mono (by omega)))
  have HB6 : Hid (Below w.heap.size w w6) := Lib.hid (HB5.out.trans (hb6.mono (by omega)))
  have l6 := HL6.out.cell
  have i6 := HI6.out.cell
  have q6 := HW6.out.cell
  have hya6 := HL6.out.lt
  have hyb6 := HI6.out.lt
  have hyc6 := HW6.out.lt
  clear hb6 HL5 HI5 HW5 HR5 HO5 HS5 HB5 l5 i5 q5
  have hvx := ask_lvB HX.out hl (by omega)
  have HF : Hid (f ≠ 99 → lvB rh rf rz = true) := Lib.hid fun h9 => free_lvB HRES.out hl (by omega) h9
  clear hl
  go_wp2_with (fail)
  refine (implValid_any xh xf AX xz.length cX w6.heap.size xz _ (by exact HN6.out.alloc (Nat.le_refl _) _) (by simp) hcapX.1 hcapX.2).mono ?_
  rintro e w7 ⟨rfl, hb7⟩
  have HL7 := Lib.hid ((HL6.out.alloc (.cells #[.int .i64 xh, .int .i64 xf, .slice AX xz.length cX] 25)).below hb7 (by simp; omega))
  have HI7 := Lib.hid ((HI6.out.alloc (.cells #[.int .i64 xh, .int .i64 xf, .slice AX xz.length cX] 25)).below hb7 (by simp; omega))
  have HW7 := Lib.hid ((HW6.out.alloc (.cells #[.int .i64 xh, .int .i64 xf, .slice AX xz.length cX] 25)).below hb7 (by simp; omega))
  have HR7 := Lib.hid ((HR6.out.alloc (by omega) (.cells #[.int .i64 xh, .int .i64 xf, .slice AX xz.length cX] 25)).below (hb7.mono (by simp; omega)))
  have HO7 := Lib.hid ((HO6.out.alloc (by omega) (.cells #[.int .i64 xh, .int .i64 xf, .slice AX xz.length cX] 25)).below (hb7.mono (by simp; omega)))
  have HS7 := Lib.hid ((HS6.out.alloc (by omega) (.cells #[.int .i64 xh, .int .i64 xf, .slice AX xz.length cX] 25)).below (hb7.mono (by simp; omega)))
  have HB7 : Hid (Below w.heap.size w w7) := Lib.hid ((HB6.out.alloc (by omega) _).trans (hb7.mono (by simp; omega)))
  have HX7 := Lib.hid ((Blk.new' (g := w6.heap.size) w6 _ #[.int .i64 xh, .int .i64 xf, .slice AX xz.length cX] rfl).below hb7 (by simp))
  have l7 := HL7.out.cell
  have i7 := HI7.out.cell
  have q7 := HW7.out.cell
  have hya7 := HL7.out.lt
  have hyb7 := HI7.out.lt
  have hyc7 := HW7.out.lt
  have x7 := HX7.out.cell
  have hyx7 := HX7.out.lt
  clear hb7 HL6 HI6 HW6 HR6 HO6 HS6 HB6 l6 i6 q6
  rw [hvx]
  go_wp2_with (fail)
  refine (implValid_any rh rf A2 rz.length c2 w2.heap.size rz _ (by exact HO7.out) (by omega) hcap2.1 hcap2.2).mono ?_
  rintro e w8 ⟨rfl, hb8⟩
  have HL8 := Lib.hid (HL7.out.below hb8 HL7.out.lt)
  have HI8 := Lib.hid (HI7.out.below hb8 HI7.out.lt)
  have HW8 := Lib.hid (HW7.out.below hb8 HW7.out.lt)
  have HR8 := Lib.hid (HR7.out.below (hb8.mono (by omega)))
  have HO8 := Lib.hid (HO7.out.below (hb8.mono (by omega)))
  have HS8 := Lib.hid (HS7.out.below (hb8.mono (by omega)))
  have HB8 : Hid (Below w.heap.size w w8) := Lib.hid (HB7.out.trans (hb8.mono (by omega)))
  have l8 := HL8.out.cell
  have i8 := HI8.out.cell
  have q8 := HW8.out.cell
  have hya8 := HL8.out.lt
  have hyb8 := HI8.out.lt
  have hyc8 := HW8.out.lt
  clear hb8 HL7 HI7 HW7 HR7 HO7 HS7 HB7 l7 i7 q7
  cases hvo : lvB rh rf rz
  · have h9 : f = 99 := by
      rcases Classical.em (f = 99) with h1 | h1
      · exact h1
      · have := HF.out h1
        rw [hvo] at this
        cases this
    have h9' : (f == 99) = true := by simp [h9]
    clear h9 hvo
    go_wp2_with (fail)
    go_ret
    exact ⟨rfl, HB8.out⟩
  · go_wp2_with (fail)
    go_ret
    exact ⟨rfl, HB8.out⟩
end Go.Proofs.YtohbmkppfbbngaaDoor
