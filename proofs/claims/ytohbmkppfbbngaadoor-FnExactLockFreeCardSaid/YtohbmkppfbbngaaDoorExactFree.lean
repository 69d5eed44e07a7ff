/-
  What is proved: laws.FnExactLockFree returns true for every lock and number, and leaves its argument as it was. Condition: the variable errors.errorType holds the handle of the type error.
-/
import Derived.Test.YtohbmkppfbbngaaDoorExactSt
import Derived.Deep.RegionWith
namespace Go.Proofs.YtohbmkppfbbngaaDoor
open Go.RowKit

set_option maxRecDepth 100000 in
set_option maxHeartbeats 2000000 in
theorem exactFree_any (h f who : Int) (A : Option Addr) (n c B : Nat) (zs : List Int) (w : World) (hr : Reads w B 1 A n (ints zs)) (hB : B ≤ w.heap.size) (hnc : n ≤ c) (hc : c ≤ maxLen) (hg : Held w) :
    Calls Tryd.prog 6 #[.agg #[.int .i64 h, .int .i64 f, .slice A n c], .int .i64 who] w fun e w' => e = .returned (.bool true) ∧ Below w.heap.size w w' := by
  have hzn := hr.len_ints
  have HG := Lib.hid hg
  have HR := Lib.hid hr
  clear hr hg
  have hn : n ≤ maxLen := by omega
  by_cases hs : szB n 1048576 < 0
  · clear hzn
    go_enter Tryd.func6, Tryd.ntmps6
    go_wp2_with (go_at_call 17; refine (szLock_any _ _ _ _ _ _ _ hn (by omega) (by omega)).mono ?_; rintro e w1 ⟨rfl, hb⟩)
    go_ret
    exact ⟨rfl, ((Below.refl _ _).alloc (Nat.le_refl _) _).trans (hb.mono (by simp))⟩
  have hn2 : n ≤ 1048576 := by unfold szB at hs; split at hs <;> omega
  obtain ⟨rh, rf, rz, ro, hres⟩ : ∃ rh rf rz ro, freeP h f zs who = ((rh, rf, rz), ro) := ⟨_, _, _, _, rfl⟩
  have hrl : rz.length ≤ 1048577 := by have := freeP_len hres; omega
  have HRES := Lib.hid hres
  have HZN := Lib.hid hzn
  clear hres hzn
  go_enter Tryd.func6, Tryd.ntmps6
  go_wp2_with (fail)
  refine (szLock_any h f A n c 1048576 _ hn (by omega) (by omega)).mono ?_
  rintro e w1 ⟨rfl, hb1⟩
  have HR1 := Lib.hid ((HR.out.alloc hB (.cells #[.int .i64 h, .int .i64 f, .slice A n c] 31)).below (hb1.mono (by simp; omega)))
  have HB1 : Hid (Below w.heap.size w w1) := Lib.hid (((Below.refl _ _).alloc (Nat.le_refl _) _).trans (hb1.mono (by simp)))
  have HK1 := Lib.hid ((Blk.new w 31 #[.int .i64 h, .int .i64 f, .slice A n c]).below hb1 (by simp))
  have hz1 := HK1.out.lt
  have k1 := HK1.out.cell
  clear hb1
  go_wp2_with (fail)
  refine (toLock_any h f A n c B zs _ HR1.out (by omega) hn2).mono ?_
  rintro e w2 ⟨⟨A2, n2, c2, rfl, hown2⟩, hb2⟩
  have hcap2 := own_caps hown2
  have HR2 := Lib.hid (Reads.of_own hown2)
  have HRa2 := Lib.hid (HR1.out.below (hb2.mono (by omega)))
  have HB2 : Hid (Below w.heap.size w w2) := Lib.hid (HB1.out.trans (hb2.mono (by omega)))
  have HK2 := Lib.hid (HK1.out.below hb2 (by omega))
  have hz2 := HK2.out.lt
  clear hb2 k1 hown2 HR1 HB1 HK1
  go_wp2_with (fail)
  refine (specFree_r HRES.out A2 n2 c2 _ _ HR2.out (Nat.le_refl _) hcap2.1 hcap2.2).mono ?_
  rintro e w3 ⟨A3, c3, rfl, hown3, hb3⟩
  have hcap3 := own_caps hown3
  have HO3 := Lib.hid (Reads.of_own hown3)
  have HRa3 := Lib.hid (HRa2.out.below (hb3.mono (by omega)))
  have HB3 : Hid (Below w.heap.size w w3) := Lib.hid (HB2.out.trans (hb3.mono (by omega)))
  have HK3 := Lib.hid (HK2.out.below hb3 (by omega))
  have hz3 := HK3.out.lt
  have k3 := HK3.out.cell
  clear hb3 hown3 HR2 HB2 HK2 HRa2 hcap2 hz2 hz1
  go_wp2_with (fail)
  refine (toLock_any h f A n c B zs _ (by exact HRa3.out.alloc (by omega) _) (by simp; omega) hn2).mono ?_
  rintro e w4 ⟨⟨A4, n4, c4, rfl, hown4⟩, hb4⟩
  have hcap4 := own_caps hown4
  have hn4 : n4 = n := by have h1 := hown4.1; have h2 := HZN.out; rw [ints_len] at h1; omega
  subst hn4
  have HO4 : Hid (w4.ownsRow (w3.heap.size + 1) 3 1 (.slice A4 n4 c4) n4 (ints zs)) := Lib.hid (by simpa using hown4)
  have HR34 := Lib.hid ((HO3.out.alloc (Nat.le_refl _) (.cells #[.int .i64 rh, .int .i64 rf, .slice A3 rz.length c3] 25)).below (hb4.mono (by simp)))
  have HRa4 := Lib.hid ((HRa3.out.alloc (by omega) (.cells #[.int .i64 rh, .int .i64 rf, .slice A3 rz.length c3] 25)).below (hb4.mono (by simp; omega)))
  have HB4 : Hid (Below w.heap.size w w4) := Lib.hid ((HB3.out.alloc (by omega) _).trans (hb4.mono (by simp; omega)))
  have HK4 := Lib.hid ((HK3.out.alloc (.cells #[.int .i64 rh, .int .i64 rf, .slice A3 rz.length c3] 25)).below hb4 (by simp; omega))
  have HX4 := Lib.hid ((Blk.new w3 25 #[.int .i64 rh, .int .i64 rf, .slice A3 rz.length c3]).below hb4 (by simp))
  have hz4 := HX4.out.lt
  have G4 : Hid (Held w4) := Lib.hid (HG.out.below HB4.out)
  clear hb4 k3 hown4 HRa3 HB3 HK3 HO3
  go_wp2_with (fail)
  refine (implFree_r HRES.out A4 n4 c4 w4.heap.size _ (by exact (Reads.of_own HO4.out).alloc (Nat.le_refl _) _) (by simp) hcap4.1 hcap4.2 (by omega) (by exact G4.out.below ((Below.refl _ _).alloc (Nat.le_refl _) _))).mono ?_
  rintro e w5 ⟨A5, c5, rfl, hown5, hb5⟩
  have hcap5 := own_caps hown5
  have hb5' : Below w4.heap.size w4 w5 := ((Below.refl _ _).alloc (Nat.le_refl _) _).trans (hb5.mono (by simp))
  have S0 : Hid (ESt w h f A n4 c B zs rh rf rz A3 c3 A4 n4 c4 zs A5 c5 rz w3.heap.size w4.heap.size w5.heap.size (w5.alloc (.cells #[.int .i64 rh, .int .i64 rf, .slice A5 rz.length c5] 25))) := Lib.hid
    ⟨(HRa4.out.below (hb5'.mono (by omega))).alloc (by have := hb5'.size; omega) _, (HR34.out.below (hb5'.mono (by omega))).alloc (by have := hb5'.size; omega) _, World.ownsRow.alloc (below_own' HO4.out hb5') _, World.ownsRow.alloc (by simpa using hown5) _,
      (HK4.out.below hb5' (by omega)).alloc _, (HX4.out.below hb5' (by omega)).alloc _, ((Blk.new w4 25 #[.int .i64 h, .int .i64 f, .slice A4 n4 c4]).below hb5 (by simp)).alloc _, Blk.new w5 _ _,
      (HB4.out.trans (hb5'.mono (by omega))).alloc (by have := hb5'.size; omega) _, fun k hk => (World.ownsRow.lt HO4.out k hk).2, fun k hk => (World.ownsRow.lt hown5 k hk).2, hB, hz3, hz4, by have := hb5.size; simp at this; omega,
      (G4.out.below hb5').below ((Below.refl _ _).alloc (Nat.le_refl _) _)⟩
  have p3 := (HX4.out.below hb5' (by omega)).cell
  have p4 := ((Blk.new w4 25 #[.int .i64 h, .int .i64 f, .slice A4 n4 c4]).below hb5 (by simp)).cell
  have hp4 : w4.heap.size < w5.heap.size := by have := hb5.size; simp at this; omega
  have hp3 : w3.heap.size < w5.heap.size := by omega
  clear hb5 hb5' hown5 HRa4 HR34 HO4 HK4 HX4 HB4 G4 HR HG
  have ho : (ro != ro) = false := by simp
  have he : eqLB rh rf rz rh rf rz = true := by simp [eqLB]
  have he0 : eqLB h f zs h f zs = true := by simp [eqLB]
  go_wp2_with (fail)
  clear p3 p4 hp3 hp4
  have hbb3 := S0.out.h3
  have hbb4 := S0.out.h4
  have hbb5 := S0.out.h5
  have hbl := S0.out.lt
  generalize w5.heap.size = b5 at S0 hbb5 hbl ⊢
  generalize w5.alloc (.cells #[.int .i64 rh, .int .i64 rf, .slice A5 rz.length c5] 25) = w6 at S0 hbl ⊢
  generalize w4.heap.size = b4 at S0 hbb4 hbb5 ⊢
  generalize w3.heap.size = b3 at S0 hbb3 hbb4 ⊢
  have S6 := S0
  clear S0
  have a56 := S6.out.k5.cell
  have a36 := S6.out.k3.cell
  have a46 := S6.out.k4.cell
  have al6 := S6.out.kl.cell
  have hbl6 := S6.out.lt
  refine (eqLock_any rh rf rh rf A5 A3 rz.length rz.length c5 c3 _ _ rz rz _ (by exact Reads.of_own S6.out.o5) (by exact S6.out.r3) (Nat.le_refl _) (by omega) (by unfold maxLen; omega) (by unfold maxLen; omega)).mono ?_
  rintro e w7 ⟨rfl, hb7⟩
  have S7 := Lib.hid (S6.out.below hb7)
  clear hb7 a56 a36 a46 al6 S6
  have a57 := S7.out.k5.cell
  have a37 := S7.out.k3.cell
  have a47 := S7.out.k4.cell
  have al7 := S7.out.kl.cell
  have hbl7 := S7.out.lt
  go_wp2_with (fail)
  go_region_with (first
    | (go_at_call 19
       refine (toLock_any h f A n4 c B zs _ (by exact S7.out.drew.ra) (by simp; omega) hn2).mono ?_
       rintro e w8 ⟨⟨A8, n8, c8, rfl, hown8⟩, hb8⟩
       have hcap8 := own_caps hown8
       have HO8 := Lib.hid (Reads.of_own hown8)
       have S8 := Lib.hid (S7.out.drew.below hb8)
       have a48 := S8.out.k4.cell
       have hbl8 := S8.out.lt
       clear hb8 hown8)
    | (go_at_call 21
       refine (eqLock_any h f h f A4 A8 n4 n8 c4 c8 _ _ zs zs _ (by exact Reads.of_own S8.out.o4) (by exact HO8.out) (Nat.le_refl _) (Nat.le_refl _) (by omega) (by omega)).mono ?_
       rintro e w9 ⟨rfl, hb9⟩
       have S9 := Lib.hid (S8.out.below hb9)
       have hbl9 := S9.out.lt
       clear hb9))
  all_goals
    clear a57 a37 a47 al7
    have a59 := S9.out.k5.cell
    have a39 := S9.out.k3.cell
    have a49 := S9.out.k4.cell
    have al9 := S9.out.kl.cell
    have hbl9 := S9.out.lt
    go_wp2_with (fail)
    refine (markLock_any h f A4 n4 c4 _ zs _ (by exact S9.out.o4) (by omega)).mono ?_
    rintro e w10 ⟨rfl, hown10, hg10⟩
    have S10 := Lib.hid (S9.out.mark4 hown10 hg10)
    clear hown10 hg10 a59 a39 a49 al9 S9
    have a510 := S10.out.k5.cell
    have a310 := S10.out.k3.cell
    have a410 := S10.out.k4.cell
    have al10 := S10.out.kl.cell
    have hbl10 := S10.out.lt
    go_wp2_with (fail)
    refine (eqLock_any rh rf rh rf A5 A3 rz.length rz.length c5 c3 _ _ rz rz _ (by exact Reads.of_own S10.out.o5) (by exact S10.out.r3) (Nat.le_refl _) (by omega) (by unfold maxLen; omega) (by unfold maxLen; omega)).mono ?_
    rintro e w11 ⟨rfl, hb11⟩
    have S11 := Lib.hid (S10.out.below hb11)
    clear hb11 a510 a310 a410 al10 S10
    have a511 := S11.out.k5.cell
    have a311 := S11.out.k3.cell
    have a411 := S11.out.k4.cell
    have al11 := S11.out.kl.cell
    have hbl11 := S11.out.lt
    go_wp2_with (fail)
    refine (markLock_any rh rf A5 rz.length c5 _ rz _ (by exact S11.out.o5) hrl).mono ?_
    rintro e w12 ⟨rfl, hown12, hg12⟩
    have S12 := Lib.hid (S11.out.mark5 hown12 hg12)
    clear hown12 hg12 a511 a311 a411 al11 S11
    have a512 := S12.out.k5.cell
    have a312 := S12.out.k3.cell
    have a412 := S12.out.k4.cell
    have al12 := S12.out.kl.cell
    have hbl12 := S12.out.lt
    go_wp2_with (fail)
    refine (heldLock_any rh rf A5 rz.length c5 _ _ (by exact Reads.of_own S12.out.o5) (Nat.le_refl _) hrl).mono ?_
    rintro e w13 ⟨rfl, hb13⟩
    have S13 := Lib.hid (S12.out.below hb13)
    clear hb13 a512 a312 a412 al12 S12
    have a513 := S13.out.k5.cell
    have a313 := S13.out.k3.cell
    have a413 := S13.out.k4.cell
    have al13 := S13.out.kl.cell
    have hbl13 := S13.out.lt
    have hq : ((1 + (rz.length : Int)) != (1 + (rz.length : Int))) = false := by simp
    go_wp2_with (fail)
    refine (toLock_any h f A n4 c B zs _ (by exact S13.out.ra) (by omega) hn2).mono ?_
    rintro e w14 ⟨⟨A14, n14, c14, rfl, hown14⟩, hb14⟩
    have hcap14 := own_caps hown14
    have hn14 : n14 ≤ 1048576 := by have h1 := hown14.1; have h2 := HZN.out; rw [ints_len] at h1; omega
    have HO14 := Lib.hid (Reads.of_own hown14)
    clear hown14
    have S14 := Lib.hid (S13.out.below hb14)
    clear hb14 a513 a313 a413 al13 S13
    have a514 := S14.out.k5.cell
    have a314 := S14.out.k3.cell
    have a414 := S14.out.k4.cell
    have al14 := S14.out.kl.cell
    have hbl14 := S14.out.lt
    go_wp2_with (fail)
    refine (implFree_r HRES.out A14 n14 c14 _ _ (by exact HO14.out) (Nat.le_refl _) hcap14.1 hcap14.2 hn14 (by exact S14.out.hg)).mono ?_
    rintro e w15 ⟨A15, c15, rfl, hown15, hb15⟩
    have HO15 := Lib.hid (Reads.of_own hown15)
    have hcap15 := own_caps hown15
    clear hown15
    have S15 := Lib.hid (S14.out.below hb15)
    clear hb15 a514 a314 a414 al14 S14
    have a515 := S15.out.k5.cell
    have a315 := S15.out.k3.cell
    have a415 := S15.out.k4.cell
    have al15 := S15.out.kl.cell
    have hbl15 := S15.out.lt
    have hb3x : b3 < w15.heap.size := by omega
    have a15 := (Blk.new w15 25 #[.int .i64 rh, .int .i64 rf, .slice A15 rz.length c15]).cell
    go_wp2_with (fail)
    refine (eqLock_any rh rf rh rf A15 A3 rz.length rz.length c15 c3 w15.heap.size b3 rz rz _ (by exact HO15.out.alloc (Nat.le_refl _) _) (by exact S15.out.r3.alloc (by omega) _) (by simp) (by simp; omega) (by unfold maxLen; omega) (by unfold maxLen; omega)).mono ?_
    rintro e w16 ⟨rfl, hb16⟩
    have S16 := Lib.hid ((S15.out.alloc _).below hb16)
    clear hb16 a515 a315 a415 al15 S15 a15
    have a516 := S16.out.k5.cell
    have a316 := S16.out.k3.cell
    have a416 := S16.out.k4.cell
    have al16 := S16.out.kl.cell
    have hbl16 := S16.out.lt
    go_wp2_with (fail)
    refine (heldLock_any rh rf A5 rz.length c5 _ _ (by exact Reads.of_own S16.out.o5) (Nat.le_refl _) hrl).mono ?_
    rintro e w17 ⟨rfl, hb17⟩
    have S17 := Lib.hid (S16.out.below hb17)
    clear hb17
    go_wp2_with (fail)
    go_ret
    exact ⟨rfl, S17.out.bel⟩
end Go.Proofs.YtohbmkppfbbngaaDoor
