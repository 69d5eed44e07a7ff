/-
  What is proved: laws.FnLockFree returns true for every code, and nothing that was there changes. Conditions: the code reads as bytes, and the variable errors.errorType holds the handle of the type error.
-/
import Derived.Test.YtohbmkppfbbngaaDoorGives
import Derived.Test.YtohbmkppfbbngaaDoorLockFacts
import Derived.Deep.RegionHeld3
import Derived.Deep.RegionLaw
import Derived.BigRegion
namespace Go.Proofs.YtohbmkppfbbngaaDoor
open Go.RowKit

set_option maxRecDepth 100000 in
set_option maxHeartbeats 4000000 in
theorem lawFree_any (A : Option Addr) (n c B : Nat) (bs : List Int) (w : World) (hr : Reads w B 1 A n (bys bs)) (hB : B ≤ w.heap.size) (hb : Bytes bs) (hnc : n ≤ c) (hc : c ≤ maxLen) (hg : Held w) :
    Calls Tryd.prog 8 #[.slice A n c] w fun e w' => e = .returned (.bool true) ∧ Below w.heap.size w w' := by
  have HR := Lib.hid hr
  have HB := Lib.hid hb
  have HG := Lib.hid hg
  clear hr hb hg
  have hc' : c ≤ 9223372036854775807 := by unfold maxLen at hc; omega
  by_cases hn : 1048576 < n
  · go_enter Tryd.func8, Tryd.ntmps8
    go_wp2_with (fail)
    go_ret
    exact ⟨rfl, Below.refl _ _⟩
  go_enter Tryd.func8, Tryd.ntmps8
  go_wp2_with (fail)
  refine (drawFreeLock_any A n c B bs w HR.out hB HB.out hnc hc).mono ?_
  rintro e w1 ⟨h, f, zs, A1, c1, who, rfl, hown1, hb1, hdb, hw0, hw1⟩
  have hcap := own_caps hown1
  have hlen : zs.length ≤ 6 := hdb.2.2.2.2
  have hd := hdb
  obtain ⟨hh0, hh1, hf0, hf1, _⟩ := hdb
  obtain ⟨rh, rf, rz, ro, hres⟩ : ∃ rh rf rz ro, freeP h f zs who = ((rh, rf, rz), ro) := ⟨_, _, _, _, rfl⟩
  have HRES := Lib.hid hres
  have HR1 := Lib.hid (Reads.of_own hown1)
  have HOWN1 := Lib.hid hown1
  have HB1 := Lib.hid hb1
  have G1 : Hid (Held w1) := Lib.hid (HG.out.below hb1)
  have hz1 : w.heap.size ≤ w1.heap.size := hb1.size
  clear hown1 hb1 hres hd
  go_wp2_with (fail)
  refine (implFree_r HRES.out A1 zs.length c1 w1.heap.size _ (by exact HR1.out.alloc (Nat.le_refl _) _) (by simp) hcap.1 hcap.2 (by omega) (by exact G1.out.below ((Below.refl _ _).alloc (Nat.le_refl _) _))).mono ?_
  rintro e w2 ⟨A2, c2, rfl, hown2, hb2⟩
  have HL2 := Lib.hid ((Blk.new w1 25 #[.int .i64 h, .int .i64 f, .slice A1 zs.length c1]).below hb2 (by simp))
  have HR2 := Lib.hid ((HR1.out.alloc (Nat.le_refl _) (.cells #[.int .i64 h, .int .i64 f, .slice A1 zs.length c1] 25)).below (hb2.mono (by simp)))
  have HB2 : Hid (Below w.heap.size w w2) := Lib.hid ((HB1.out.alloc hz1 _).trans (hb2.mono (by simp; omega)))
  have HO2 := Lib.hid (Reads.of_own hown2)
  have hcap2 := own_caps hown2
  have l2 := HL2.out.cell
  have hz2 := HL2.out.lt
  clear hown2 hb2 HR1 HB1
  go_wp2_with (fail)
  refine (specFree_r HRES.out A1 zs.length c1 w1.heap.size _ (by exact HR2.out.alloc (by omega) _) (by simp; omega) hcap.1 hcap.2).mono ?_
  rintro e w3 ⟨A3, c3, rfl, hown3, hb3⟩
  have HL3 := Lib.hid ((HL2.out.alloc (.cells #[.int .i64 rh, .int .i64 rf, .slice A2 rz.length c2] 25)).below hb3 (by simp; omega))
  have HI3 := Lib.hid ((Blk.new w2 25 #[.int .i64 rh, .int .i64 rf, .slice A2 rz.length c2]).below hb3 (by simp))
  have HR3 := Lib.hid ((HR2.out.alloc (by omega) (.cells #[.int .i64 rh, .int .i64 rf, .slice A2 rz.length c2] 25)).below (hb3.mono (by simp; omega)))
  have HO3 := Lib.hid ((HO2.out.alloc (Nat.le_refl _) (.cells #[.int .i64 rh, .int .i64 rf, .slice A2 rz.length c2] 25)).below (hb3.mono (by simp)))
  have HB3 : Hid (Below w.heap.size w w3) := Lib.hid ((HB2.out.alloc (by omega) _).trans (hb3.mono (by simp; omega)))
  have HS3 := Lib.hid (Reads.of_own hown3)
  have hcap3 := own_caps hown3
  have l3 := HL3.out.cell
  have i3 := HI3.out.cell
  have hz3 := HI3.out.lt
  have hz3' := HL3.out.lt
  clear hown3 hb3 HL2 HR2 HO2 HB2 l2
  have ho : (ro != ro) = false := by simp
  have ho2 : (ro == ro) = true := by simp
  have he : eqLB rh rf rz rh rf rz = true := by simp [eqLB]
  go_wp2_with (fail)
  refine (sameLock_any rh rf rh rf A2 A3 rz.length rz.length c2 c3 w2.heap.size w3.heap.size rz rz _ (by exact HO3.out.alloc (by omega) _) (by exact HS3.out.alloc (Nat.le_refl _) _) (by simp; omega) (by simp) (by omega) (by omega)).mono ?_
  rintro e w4 ⟨rfl, hb4⟩
  have HL4 := Lib.hid ((HL3.out.alloc (.cells #[.int .i64 rh, .int .i64 rf, .slice A3 rz.length c3] 25)).below hb4 (by simp; omega))
  have HI4 := Lib.hid ((HI3.out.alloc (.cells #[.int .i64 rh, .int .i64 rf, .slice A3 rz.length c3] 25)).below hb4 (by simp; omega))
  have HW4 := Lib.hid ((Blk.new w3 25 #[.int .i64 rh, .int .i64 rf, .slice A3 rz.length c3]).below hb4 (by simp))
  have HR4 := Lib.hid ((HR3.out.alloc (by omega) (.cells #[.int .i64 rh, .int .i64 rf, .slice A3 rz.length c3] 25)).below (hb4.mono (by simp; omega)))
  have HO4 := Lib.hid ((HO3.out.alloc (by omega) (.cells #[.int .i64 rh, .int .i64 rf, .slice A3 rz.length c3] 25)).below (hb4.mono (by simp; omega)))
  have HS4 := Lib.hid ((HS3.out.alloc (Nat.le_refl _) (.cells #[.int .i64 rh, .int .i64 rf, .slice A3 rz.length c3] 25)).below (hb4.mono (by simp)))
  have HB4 : Hid (Below w.heap.size w w4) := Lib.hid ((HB3.out.alloc (by omega) _).trans (hb4.mono (by simp; omega)))
  have l4 := HL4.out.cell
  have i4 := HI4.out.cell
  have q4 := HW4.out.cell
  have hy1 := HL4.out.lt
  have hy2 := HI4.out.lt
  have hy3 := HW4.out.lt
  clear hb4 HL3 HI3 HR3 HO3 HS3 HB3 l3 i3
  cases hro : ro
  · go_wp2_with (fail)
    refine (sameLock_any rh rf rh rf A2 A3 rz.length rz.length c2 c3 w2.heap.size w3.heap.size rz rz _ (by exact HO4.out) (by exact HS4.out) (by omega) (by omega) (by omega) (by omega)).mono ?_
    rintro e wz ⟨rfl, hbz⟩
    go_wp2_with (fail)
    go_ret
    exact ⟨rfl, HB4.out.trans (hbz.mono (by omega))⟩
  subst hro
  by_cases hh : h = who
  · have tb : (h != who) = false := by simp [hh]
    have HF := Lib.hid (free_ok HRES.out (free_valid HRES.out).1 (free_valid HRES.out).2)
    have HQ := Lib.hid hh
    have hnum := (lvB_nums (free_valid HRES.out).1)
    clear hh
    rcases HF.out with ⟨-, -, hz, hf9, e1, e2, e3⟩ | ⟨-, -, hz, e1, e2, -⟩ | ⟨h1, -⟩
    · have hzl : 0 < zs.length := by
        cases zs with
        | nil => exact absurd rfl hz
        | cons z r => simp
      have t0 : ((zs.length : Int) == 0) = false := beq_eq_false_iff_ne.2 (by omega)
      have t9 : (f == 99) = false := by simp; omega
      clear hz
      subst e2
      have HE3 := Lib.hid e3
      clear e3
      obtain ⟨ad, u, hA, _, hx, hcell⟩ := HR4.out.at_ hzl
      obtain ⟨z, hz, rfl⟩ := ints_at hx
      have hrz : rh = z := by
        rw [e1]
        cases zs with
        | nil => simp at hz
        | cons a r => simpa using hz
      clear e1
      subst hrz
      obtain ⟨g, cap, hAe, hbg, hglt⟩ := HOWN1.out.form hzl
      simp only [Value.slice.injEq] at hAe
      obtain ⟨rfl, _, rfl⟩ := hAe
      injection hA with hA
      subst hA
      have HC0 : w4.cell? ⟨g, 0, none⟩ = some (.int .i64 rh) := by simpa [Addr.add] using hcell
      have HZ := Lib.hid hz
      clear hcell hx hz
      have hg4 : g < w4.heap.size := by omega
      have te : (rh == rh) = true := by simp
      have te2 : (f + 1 == f + 1) = true := by simp
      have hq := eqB_self rz
      have hwr : IntKind.i64.wrap (f + 1) = f + 1 := IntWalk.i64_in _ (by omega)
      have b1 : (0 : Int) < (zs.length : Int) := by omega
      have b2 : (1 : Int) ≤ (zs.length : Int) := by omega
      have b3 : (zs.length : Int) ≤ (c1 : Int) := by omega
      have b4 : (1 : Int) ≤ (c1 : Int) := by omega
      have hlz : rz.length ≤ 6 := by rw [HE3.out]; simp; omega
      have HCUT : Hid (∀ W', Below w4.heap.size w4 W' → Reads W' w4.heap.size 1 (if c1 = 1 then some ⟨g, 0, none⟩ else some ⟨g, 1, none⟩) (zs.length - 1) (ints rz)) := Lib.hid fun W' hW => by
        have h1 := ((HR4.out.more (B' := w4.heap.size) (by omega)).below hW).cut (k := 1) (cap := c1) (by omega) hcap.1
        rw [HE3.out]
        simpa [Addr.add, ints, List.map_tail] using h1
      have HV0 : w4.cell? ⟨w1.heap.size, 0, none⟩ = some (.int .i64 h) := HL4.out.cell 0
      have HV1 : w4.cell? ⟨w1.heap.size, 1, none⟩ = some (.int .i64 f) := HL4.out.cell 1
      have HV2 : w4.cell? ⟨w1.heap.size, 2, none⟩ = some (.slice (some ⟨g, 0, none⟩) zs.length c1) := HL4.out.cell 2
      have HU0 : w4.cell? ⟨w2.heap.size, 0, none⟩ = some (.int .i64 rh) := HI4.out.cell 0
      have HU1 : w4.cell? ⟨w2.heap.size, 1, none⟩ = some (.int .i64 (f + 1)) := HI4.out.cell 1
      have HU2 : w4.cell? ⟨w2.heap.size, 2, none⟩ = some (.slice A2 rz.length c2) := HI4.out.cell 2
      by_cases hc1 : c1 = 1
      · have hl1 : zs.length = 1 := by omega
        have HCU : Hid (∀ W', Below w4.heap.size w4 W' → Reads W' w4.heap.size 1 (some ⟨g, 0, none⟩) (zs.length - 1) (ints rz)) := Lib.hid fun W' hW => by have := HCUT.out W' hW; rwa [if_pos hc1] at this
        have HL1 := Lib.hid hl1
        clear hl1
        go_wp2_with (fail)
        go_region_held3 (fun w' => w'.cell? ⟨w1.heap.size, 0, none⟩ = some (.int .i64 h) ∧ w'.cell? ⟨w1.heap.size, 1, none⟩ = some (.int .i64 f) ∧ w'.cell? ⟨w1.heap.size, 2, none⟩ = some (.slice (some ⟨g, 0, none⟩) zs.length c1) ∧
            w'.cell? ⟨w2.heap.size, 0, none⟩ = some (.int .i64 rh) ∧ w'.cell? ⟨w2.heap.size, 1, none⟩ = some (.int .i64 (f + 1)) ∧ w'.cell? ⟨w2.heap.size, 2, none⟩ = some (.slice A2 rz.length c2) ∧ w'.cell? ⟨g, 0, none⟩ = some (.int .i64 rh))
          (first
            | exact ⟨HV0, HV1, HV2, HU0, HU1, HU2, HC0⟩
            | exact HS7.out)
          ((go_at_call 26
            refine (sameInts_any A2 _ rz.length (zs.length - 1) c2 _ w2.heap.size w4.heap.size rz rz _ (HO4.out.below (Below.mono (B := w4.heap.size) ?_ (by omega))) (HCU.out _ ?_) (by omega) (by omega)).mono ?_
            · first | exact Below.refl _ _ | exact (Below.refl _ _).drew
            · first | exact Below.refl _ _ | exact (Below.refl _ _).drew
            rintro e w7 ⟨rfl, hb7⟩
            refine by_way (P := Below w4.heap.size w4 w7) ?_ ?_
            · first | exact hb7 | exact (Below.refl _ _).drew.trans hb7
            intro hbb
            have HB7 := Lib.hid hbb
            have k1 := fun o => hbb.cell (p := ⟨w1.heap.size, o, none⟩) hy1
            have k2 := fun o => hbb.cell (p := ⟨w2.heap.size, o, none⟩) hy2
            have k3 := hbb.cell (p := ⟨g, 0, none⟩) hg4
            have HS7 := Lib.hid (And.intro ((k1 0).trans HV0) (And.intro ((k1 1).trans HV1) (And.intro ((k1 2).trans HV2) (And.intro ((k2 0).trans HU0) (And.intro ((k2 1).trans HU1) (And.intro ((k2 2).trans HU2) (k3.trans HC0)))))))
            clear hb7 hbb k1 k2 k3))
        all_goals
          go_wp2
          go_ret
          exact ⟨rfl, HB4.out.trans (HB7.out.mono HB4.out.size)⟩
      · have HCU : Hid (∀ W', Below w4.heap.size w4 W' → Reads W' w4.heap.size 1 (some ⟨g, 1, none⟩) (zs.length - 1) (ints rz)) := Lib.hid fun W' hW => by have := HCUT.out W' hW; rwa [if_neg hc1] at this
        go_wp2_with (fail)
        go_region_held3 (fun w' => w'.cell? ⟨w1.heap.size, 0, none⟩ = some (.int .i64 h) ∧ w'.cell? ⟨w1.heap.size, 1, none⟩ = some (.int .i64 f) ∧ w'.cell? ⟨w1.heap.size, 2, none⟩ = some (.slice (some ⟨g, 0, none⟩) zs.length c1) ∧
            w'.cell? ⟨w2.heap.size, 0, none⟩ = some (.int .i64 rh) ∧ w'.cell? ⟨w2.heap.size, 1, none⟩ = some (.int .i64 (f + 1)) ∧ w'.cell? ⟨w2.heap.size, 2, none⟩ = some (.slice A2 rz.length c2) ∧ w'.cell? ⟨g, 0, none⟩ = some (.int .i64 rh))
          (first
            | exact ⟨HV0, HV1, HV2, HU0, HU1, HU2, HC0⟩
            | exact HS7.out)
          ((go_at_call 26
            refine (sameInts_any A2 _ rz.length (zs.length - 1) c2 _ w2.heap.size w4.heap.size rz rz _ (HO4.out.below (Below.mono (B := w4.heap.size) ?_ (by omega))) (HCU.out _ ?_) (by omega) (by omega)).mono ?_
            · first | exact Below.refl _ _ | exact (Below.refl _ _).drew
            · first | exact Below.refl _ _ | exact (Below.refl _ _).drew
            rintro e w7 ⟨rfl, hb7⟩
            refine by_way (P := Below w4.heap.size w4 w7) ?_ ?_
            · first | exact hb7 | exact (Below.refl _ _).drew.trans hb7
            intro hbb
            have HB7 := Lib.hid hbb
            have k1 := fun o => hbb.cell (p := ⟨w1.heap.size, o, none⟩) hy1
            have k2 := fun o => hbb.cell (p := ⟨w2.heap.size, o, none⟩) hy2
            have k3 := hbb.cell (p := ⟨g, 0, none⟩) hg4
            have HS7 := Lib.hid (And.intro ((k1 0).trans HV0) (And.intro ((k1 1).trans HV1) (And.intro ((k1 2).trans HV2) (And.intro ((k2 0).trans HU0) (And.intro ((k2 1).trans HU1) (And.intro ((k2 2).trans HU2) (k3.trans HC0)))))))
            clear hb7 hbb k1 k2 k3))
        all_goals
          go_wp2
          go_ret
          exact ⟨rfl, HB4.out.trans (HB7.out.mono HB4.out.size)⟩
    · subst e1 e2
      by_cases hl0 : zs.length = 0
      · have t0 : ((zs.length : Int) == 0) = true := by simp [hl0]
        have te : (rf == rf) = true := by simp
        clear hl0
        go_wp2_with (fail)
        go_ret
        exact ⟨rfl, HB4.out⟩
      · have t0 : ((zs.length : Int) == 0) = false := beq_eq_false_iff_ne.2 (by omega)
        have hf : rf = 99 := by
          rcases hz with h1 | h1
          · exact absurd (by rw [h1]; rfl) hl0
          · omega
        have t9 : (rf == 99) = true := by simp [hf]
        have te : (rf == rf) = true := by simp
        clear hf hl0
        go_wp2_with (fail)
        go_ret
        exact ⟨rfl, HB4.out⟩
    · exact absurd HQ.out h1
  · have tb : (h != who) = true := by simp [hh]
    clear hh
    go_wp2_with (fail)
    refine (sameLock_any rh rf rh rf A2 A3 rz.length rz.length c2 c3 w2.heap.size w3.heap.size rz rz _ (by exact HO4.out) (by exact HS4.out) (by omega) (by omega) (by omega) (by omega)).mono ?_
    rintro e wz ⟨rfl, hbz⟩
    go_wp2_with (fail)
    go_ret
    exact ⟨rfl, HB4.out.trans (hbz.mono (by omega))⟩
end Go.Proofs.YtohbmkppfbbngaaDoor
