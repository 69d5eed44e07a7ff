/-
  What is proved: laws.FnLockAsk returns true for every code, and nothing that was there changes. Conditions: the code reads as bytes, and the variable errors.errorType holds the handle of the type error.
-/
import Derived.Test.YtohbmkppfbbngaaDoorGives
import Derived.Deep.RegionHeld3
import Derived.Deep.RegionLaw
import Derived.BigRegion
namespace Go.Proofs.YtohbmkppfbbngaaDoor
open Go.RowKit

set_option maxRecDepth 100000 in
set_option maxHeartbeats 4000000 in
theorem lawAsk_any (A : Option Addr) (n c B : Nat) (bs : List Int) (w : World) (hr : Reads w B 1 A n (bys bs)) (hB : B ≤ w.heap.size) (hb : Bytes bs) (hnc : n ≤ c) (hc : c ≤ maxLen) (hg : Held w) :
    Calls Tryd.prog 5 #[.slice A n c] w fun e w' => e = .returned (.bool true) ∧ Below w.heap.size w w' := by
  have HR := Lib.hid hr
  have HB := Lib.hid hb
  have HG := Lib.hid hg
  clear hr hb hg
  have hc' : c ≤ 9223372036854775807 := by unfold maxLen at hc; omega
  by_cases hn : 1048576 < n
  · go_enter Tryd.func5, Tryd.ntmps5
    go_wp2_with (fail)
    go_ret
    exact ⟨rfl, Below.refl _ _⟩
  go_enter Tryd.func5, Tryd.ntmps5
  go_wp2_with (fail)
  refine (drawAskLock_any A n c B bs w HR.out hB HB.out hnc hc).mono ?_
  rintro e w1 ⟨h, f, zs, A1, c1, who, rfl, hown1, hb1, hdb, hw0, hw1⟩
  have hcap := own_caps hown1
  have hlen : zs.length ≤ 6 := hdb.2.2.2.2
  have hd := hdb
  obtain ⟨hh0, hh1, hf0, hf1, _⟩ := hdb
  obtain ⟨rh, rf, rz, ro, hres⟩ : ∃ rh rf rz ro, askP h f zs who = ((rh, rf, rz), ro) := ⟨_, _, _, _, rfl⟩
  have HRES := Lib.hid hres
  have HR1 := Lib.hid (Reads.of_own hown1)
  have HB1 := Lib.hid hb1
  have G1 : Hid (Held w1) := Lib.hid (HG.out.below hb1)
  have hz1 : w.heap.size ≤ w1.heap.size := hb1.size
  clear hown1 hb1 hres hd
  go_wp2_with (fail)
  refine (implAsk_r HRES.out A1 zs.length c1 w1.heap.size _ (by exact HR1.out.alloc (Nat.le_refl _) _) (by simp) hcap.1 hcap.2 (by omega) (by exact G1.out.below ((Below.refl _ _).alloc (Nat.le_refl _) _))).mono ?_
  rintro e w2 ⟨A2, c2, rfl, hown2, hb2⟩
  have HL2 := Lib.hid ((Blk.new w1 25 #[.int .i64 h, .int .i64 f, .slice A1 zs.length c1]).below hb2 (by simp))
  have HR2 := Lib.hid ((HR1.out.alloc (Nat.le_refl _) (.cells #[.int .i64 h, .int .i64 f, .slice A1 zs.length c1] 25)).below (hb2.mono (by simp)))
  have HB2 : Hid (Below w.heap.size w w2) := Lib.hid ((HB1.out.alloc hz1 _).trans (hb2.mono (by simp; omega)))
  have HO2 := Lib.hid (Reads.of_own hown2)
  have hcap2 := own_caps hown2
  have l2 := HL2.out.cell
  have hz2 := HL2.out.lt
  clear hown2 hb2 HR1 HB1
  go_wp2_with (fail)
  refine (specAsk_r HRES.out A1 zs.length c1 w1.heap.size _ (by exact HR2.out.alloc (by omega) _) (by simp; omega) hcap.1 hcap.2).mono ?_
  rintro e w3 ⟨A3, c3, rfl, hown3, hb3⟩
  have HL3 := Lib.hid ((HL2.out.alloc (.cells #[.int .i64 rh, .int .i64 rf, .slice A2 rz.length c2] 25)).below hb3 (by simp; omega))
  have HI3 := Lib.hid ((Blk.new w2 25 #[.int .i64 rh, .int .i64 rf, .slice A2 rz.length c2]).below hb3 (by simp))
  have HR3 := Lib.hid ((HR2.out.alloc (by omega) (.cells #[.int .i64 rh, .int .i64 rf, .slice A2 rz.length c2] 25)).below (hb3.mono (by simp; omega)))
  have HO3 := Lib.hid ((HO2.out.alloc (Nat.le_refl _) (.cells #[.int .i64 rh, .int .i64 rf, .slice A2 rz.length c2] 25)).below (hb3.mono (by simp)))
  have HB3 : Hid (Below w.heap.size w w3) := Lib.hid ((HB2.out.alloc (by omega) _).trans (hb3.mono (by simp; omega)))
  have HS3 := Lib.hid (Reads.of_own hown3)
  have hcap3 := own_caps hown3
  have l3 := HL3.out.cell
  have i3 := HI3.out.cell
  have hz3 := HI3.out.lt
  have hz3' := HL3.out.lt
  clear hown3 hb3 HL2 HR2 HO2 HB2 l2
  have ho : (ro != ro) = false := by simp
  have ho2 : (ro == ro) = true := by simp
  have he : eqLB rh rf rz rh rf rz = true := by simp [eqLB]
  go_wp2_with (fail)
  refine (sameLock_any rh rf rh rf A2 A3 rz.length rz.length c2 c3 w2.heap.size w3.heap.size rz rz _ (by exact HO3.out.alloc (by omega) _) (by exact HS3.out.alloc (Nat.le_refl _) _) (by simp; omega) (by simp) (by omega) (by omega)).mono ?_
  rintro e w4 ⟨rfl, hb4⟩
  have HL4 := Lib.hid ((HL3.out.alloc (.cells #[.int .i64 rh, .int .i64 rf, .slice A3 rz.length c3] 25)).below hb4 (by simp; omega))
  have HI4 := Lib.hid ((HI3.out.alloc (.cells #[.int .i64 rh, .int .i64 rf, .slice A3 rz.length c3] 25)).below hb4 (by simp; omega))
  have HW4 := Lib.hid ((Blk.new w3 25 #[.int .i64 rh, .int .i64 rf, .slice A3 rz.length c3]).below hb4 (by simp))
  have HR4 := Lib.hid ((HR3.out.alloc (by omega) (.cells #[.int .i64 rh, .int .i64 rf, .slice A3 rz.length c3] 25)).below (hb4.mono (by simp; omega)))
  have HO4 := Lib.hid ((HO3.out.alloc (by omega) (.cells #[.int .i64 rh, .int .i64 rf, .slice A3 rz.length c3] 25)).below (hb4.mono (by simp; omega)))
  have HS4 := Lib.hid ((HS3.out.alloc (Nat.le_refl _) (.cells #[.int .i64 rh, .int .i64 rf, .slice A3 rz.length c3] 25)).below (hb4.mono (by simp)))
  have HB4 : Hid (Below w.heap.size w w4) := Lib.hid ((HB3.out.alloc (by omega) _).trans (hb4.mono (by simp; omega)))
  have l4 := HL4.out.cell
  have i4 := HI4.out.cell
  have q4 := HW4.out.cell
  have hy1 := HL4.out.lt
  have hy2 := HI4.out.lt
  have hy3 := HW4.out.lt
  clear hb4 HL3 HI3 HR3 HO3 HS3 HB3 l3 i3
  cases hro : ro
  · go_wp2_with (fail)
    refine (sameLock_any rh rf rh rf A2 A3 rz.length rz.length c2 c3 w2.heap.size w3.heap.size rz rz _ (by exact HO4.out) (by exact HS4.out) (by omega) (by omega) (by omega) (by omega)).mono ?_
    rintro e w5 ⟨rfl, hb5⟩
    go_wp2_with (fail)
    go_ret
    exact ⟨rfl, HB4.out.trans (hb5.mono (by omega))⟩
  · subst hro
    have hat := ask_true HRES.out
    have HT := Lib.hid hat
    by_cases h0 : h < 0
    · have e1 : (rh == who) = true := by
        rcases HT.out.2.2 with h1 | h1
        · omega
        · simp [h1.2.1]
      have e2 : (rf == f + 1) = true := by
        rcases HT.out.2.2 with h1 | h1
        · omega
        · simp [h1.2.2.1]
      have e3 : ((rz.length : Int) == 0) = true := by
        rcases HT.out.2.2 with h1 | h1
        · omega
        · rw [h1.2.2.2.1, h1.2.2.2.2]; rfl
      clear hat
      go_wp2_with (fail)
      go_ret
      exact ⟨rfl, HB4.out⟩
    · have hA : rh = h ∧ rf = f ∧ rz = zs ++ [who] := by
        rcases HT.out.2.2 with h1 | h1
        · exact h1.2
        · omega
      obtain ⟨rfl, rfl, rfl⟩ := hA
      have e1 : (rh == rh) = true := by simp
      have e2 : (rf == rf) = true := by simp
      have l5 := HL4.out.cell
      have i5 := HI4.out.cell
      have HV0 : w4.cell? ⟨w1.heap.size, 0, none⟩ = some (.int .i64 rh) := HL4.out.cell 0
      have HV1 : w4.cell? ⟨w1.heap.size, 1, none⟩ = some (.int .i64 rf) := HL4.out.cell 1
      have HV2 : w4.cell? ⟨w1.heap.size, 2, none⟩ = some (.slice A1 zs.length c1) := HL4.out.cell 2
      have HU0 : w4.cell? ⟨w2.heap.size, 0, none⟩ = some (.int .i64 rh) := HI4.out.cell 0
      have HU1 : w4.cell? ⟨w2.heap.size, 1, none⟩ = some (.int .i64 rf) := HI4.out.cell 1
      have HU2 : w4.cell? ⟨w2.heap.size, 2, none⟩ = some (.slice A2 (zs ++ [who]).length c2) := HI4.out.cell 2
      clear hat l4 i4 q4
      go_wp2_with (fail)
      obtain ⟨i0, hi0, hz0', hza, hzb⟩ := info_parts int_info
      have hbw1 : w1.heap.size < w4.heap.size := hy1
      have hbw2 : w2.heap.size < w4.heap.size := hy2
      have HS0 : Hid (∀ w', Below w4.heap.size w4 w' → (w'.cell? ⟨w1.heap.size, 0, none⟩ = some (.int .i64 rh) ∧ w'.cell? ⟨w1.heap.size, 1, none⟩ = some (.int .i64 rf) ∧ w'.cell? ⟨w1.heap.size, 2, none⟩ = some (.slice A1 zs.length c1) ∧
          w'.cell? ⟨w2.heap.size, 0, none⟩ = some (.int .i64 rh) ∧ w'.cell? ⟨w2.heap.size, 1, none⟩ = some (.int .i64 rf) ∧ w'.cell? ⟨w2.heap.size, 2, none⟩ = some (.slice A2 (zs ++ [who]).length c2))) := Lib.hid fun w' hb => by
        have k1 := fun o => hb.cell (p := ⟨w1.heap.size, o, none⟩) hbw1
        have k2 := fun o => hb.cell (p := ⟨w2.heap.size, o, none⟩) hbw2
        exact ⟨(k1 0).trans HV0, (k1 1).trans HV1, (k1 2).trans HV2, (k2 0).trans HU0, (k2 1).trans HU1, (k2 2).trans HU2⟩
      have hq := eqB_self (zs ++ [who])
      have HP4 : Hid (Reads w4 w2.heap.size 1 A2 (zs.length + 1) (ints (zs ++ [who]))) := Lib.hid (by have h := HO4.out; rwa [List.length_append, List.length_singleton] at h)
      go_region_held3 (fun w' => w'.cell? ⟨w1.heap.size, 0, none⟩ = some (.int .i64 rh) ∧ w'.cell? ⟨w1.heap.size, 1, none⟩ = some (.int .i64 rf) ∧ w'.cell? ⟨w1.heap.size, 2, none⟩ = some (.slice A1 zs.length c1) ∧
          w'.cell? ⟨w2.heap.size, 0, none⟩ = some (.int .i64 rh) ∧ w'.cell? ⟨w2.heap.size, 1, none⟩ = some (.int .i64 rf) ∧ w'.cell? ⟨w2.heap.size, 2, none⟩ = some (.slice A2 (zs ++ [who]).length c2))
        (exact HS0.out _ (by ((repeat (first | with_reducible exact Below.refl _ _ | with_reducible exact Hid.out (by assumption) | with_reducible refine Below.drew ?_ | with_reducible refine Below.alloc ?_ (by first | omega | (simp; done) | (simp; omega)) _)); done)))
        (first
          | (refine step_append_want _ (by rfl) (.tmp 86) (.tmp 88) _ (by rfl) w4.heap.size 3 i0 _ 1 8 Tryd.underlying23 hi0 hz0' hza hzb rfl (by omega) (.slice (some ⟨w4.heap.size, 0, none⟩) 0 0) 0 [] ?_ (own_of_blk ?_ (by omega) rfl (by unfold maxLen; omega))
               w1.heap.size A1 zs.length c1 (ints zs) ?_ (HR4.out.below (Below.mono (B := w4.heap.size) ?_ (by omega))) ints_one (by unfold maxLen; omega) (by omega) ?_ ?_
             · rfl
             · (repeat (first | with_reducible refine Blk.drew ?_ | with_reducible exact Blk.new' _ _ _ (by simp) | with_reducible refine Blk.alloc ?_ _))
             · rfl
             · (repeat (first | with_reducible exact Below.refl _ _ | with_reducible exact Hid.out (by assumption) | with_reducible refine Below.drew ?_ | with_reducible refine Below.alloc ?_ (by first | omega | (simp; done) | (simp; omega)) _))
             · first | omega | (simp; done) | (simp; omega)
             intro v5 w5 hown5 hg5 hat5
             rw [Nat.zero_add, List.nil_append] at hown5
             obtain ⟨A5, c5, rfl⟩ := own_slice hown5
             have HO5 := Lib.hid hown5
             refine by_way (P := Hid (Blk w5 (w4.heap.size + 1) 3 #[.int .i64 who])) (Lib.hid (Blk.grown ?_ hg5 ?_)) ?_
             · (repeat (first | with_reducible refine Blk.drew ?_ | with_reducible exact Blk.new' _ _ _ (by simp) | with_reducible refine Blk.alloc ?_ _))
             · first | (simp [Value.ownBlock]; done) | (simp [Value.ownBlock]; omega)
             intro HK5
             refine by_way (P := Hid (Below w4.heap.size w4 w5)) (Lib.hid (Below.grown ?_ hg5 ?_ ?_)) ?_
             · (repeat (first | with_reducible exact Below.refl _ _ | with_reducible exact Hid.out (by assumption) | with_reducible refine Below.drew ?_ | with_reducible refine Below.alloc ?_ (by first | omega | (simp; done) | (simp; omega)) _))
             · first | omega | (simp; done) | (simp; omega)
             · first | (simp [Value.ownBlock]; done) | (simp [Value.ownBlock]; omega)
             intro HB5
             have hs5 : w4.heap.size ≤ w5.heap.size := HB5.out.size
             clear hown5 hg5 hat5)
          | (refine step_append_want _ (by rfl) (.tmp 86) (.tmp 88) _ (by rfl) w4.heap.size 3 i0 _ 1 8 Tryd.underlying23 hi0 hz0' hza hzb rfl (by omega) (.slice (some ⟨w4.heap.size + 1, 0, none⟩) 0 0) 0 [] ?_ (own_of_blk ?_ (by omega) rfl (by unfold maxLen; omega))
               w1.heap.size A1 zs.length c1 (ints zs) ?_ (HR4.out.below (Below.mono (B := w4.heap.size) ?_ (by omega))) ints_one (by unfold maxLen; omega) (by omega) ?_ ?_
             · rfl
             · (repeat (first | with_reducible refine Blk.drew ?_ | with_reducible exact Blk.new' _ _ _ (by simp) | with_reducible refine Blk.alloc ?_ _))
             · rfl
             · (repeat (first | with_reducible exact Below.refl _ _ | with_reducible exact Hid.out (by assumption) | with_reducible refine Below.drew ?_ | with_reducible refine Below.alloc ?_ (by first | omega | (simp; done) | (simp; omega)) _))
             · first | omega | (simp; done) | (simp; omega)
             intro v5 w5 hown5 hg5 hat5
             rw [Nat.zero_add, List.nil_append] at hown5
             obtain ⟨A5, c5, rfl⟩ := own_slice hown5
             have HO5 := Lib.hid hown5
             refine by_way (P := Hid (Blk w5 (w4.heap.size) 3 #[.int .i64 who])) (Lib.hid (Blk.grown ?_ hg5 ?_)) ?_
             · (repeat (first | with_reducible refine Blk.drew ?_ | with_reducible exact Blk.new' _ _ _ (by simp) | with_reducible refine Blk.alloc ?_ _))
             · first | (simp [Value.ownBlock]; done) | (simp [Value.ownBlock]; omega)
             intro HK5
             refine by_way (P := Hid (Below w4.heap.size w4 w5)) (Lib.hid (Below.grown ?_ hg5 ?_ ?_)) ?_
             · (repeat (first | with_reducible exact Below.refl _ _ | with_reducible exact Hid.out (by assumption) | with_reducible refine Below.drew ?_ | with_reducible refine Below.alloc ?_ (by first | omega | (simp; done) | (simp; omega)) _))
             · first | omega | (simp; done) | (simp; omega)
             · first | (simp [Value.ownBlock]; done) | (simp [Value.ownBlock]; omega)
             intro HB5
             have hs5 : w4.heap.size ≤ w5.heap.size := HB5.out.size
             clear hown5 hg5 hat5)
          | (refine step_append_want _ (by rfl) (.tmp 86) (.tmp 88) _ (by rfl) w4.heap.size 3 i0 _ 1 8 Tryd.underlying23 hi0 hz0' hza hzb rfl (by omega) (.slice (some ⟨w4.heap.size, 0, none⟩) 0 0) 0 [] ?_ (own_of_blk ?_ (by omega) rfl (by unfold maxLen; omega))
               w1.heap.size A1 zs.length c1 (ints zs) ?_ (HR4.out.below (Below.mono (B := w4.heap.size) ?_ (by omega))) ints_one (by unfold maxLen; omega) (by omega) ?_ ?_
             · rfl
             · (repeat (first | with_reducible refine Blk.drew ?_ | with_reducible exact Blk.new' _ _ _ (by simp) | with_reducible refine Blk.alloc ?_ _))
             · rfl
             · (repeat (first | with_reducible exact Below.refl _ _ | with_reducible exact Hid.out (by assumption) | with_reducible refine Below.drew ?_ | with_reducible refine Below.alloc ?_ (by first | omega | (simp; done) | (simp; omega)) _))
             · first | omega | (simp; done) | (simp; omega)
             intro v5 w5 hown5 hg5 hat5
             rw [Nat.zero_add, List.nil_append] at hown5
             obtain ⟨A5, c5, rfl⟩ := own_slice hown5
             have HO5 := Lib.hid hown5
             refine by_way (P := Hid (Below w4.heap.size w4 w5)) (Lib.hid (Below.grown ?_ hg5 ?_ ?_)) ?_
             · (repeat (first | with_reducible exact Below.refl _ _ | with_reducible exact Hid.out (by assumption) | with_reducible refine Below.drew ?_ | with_reducible refine Below.alloc ?_ (by first | omega | (simp; done) | (simp; omega)) _))
             · first | omega | (simp; done) | (simp; omega)
             · first | (simp [Value.ownBlock]; done) | (simp [Value.ownBlock]; omega)
             intro HB5
             have hs5 : w4.heap.size ≤ w5.heap.size := HB5.out.size
             clear hown5 hg5 hat5)
          | (refine step_append_want _ (by rfl) (.tmp 89) (.tmp 91) _ (by rfl) w4.heap.size 3 i0 _ 1 8 Tryd.underlying23 hi0 hz0' hza hzb rfl (by omega) (.slice A5 zs.length c5) zs.length (ints zs) ?_ (HO5.out)
               (w4.heap.size + 1 + 1) (some ⟨w4.heap.size + 1, 0, none⟩) 1 1 [.int .i64 who] ?_ (reads_of_blk (HK5.out) rfl) (by simp [Value.oneCell']) (by unfold maxLen; omega) (by omega) ?_ ?_
             · rfl
             · rfl
             · first | omega | (simp; done) | (simp; omega)
             intro v6 w6 hown6 hg6 hat6
             obtain ⟨A6, c6, rfl⟩ := own_slice hown6
             have HO6 := Lib.hid (own_snoc hown6)
             refine by_way (P := Hid (Below w4.heap.size w4 w6)) (Lib.hid (Below.grown ?_ hg6 ?_ ?_)) ?_
             · (repeat (first | with_reducible exact Below.refl _ _ | with_reducible exact Hid.out (by assumption) | with_reducible refine Below.drew ?_ | with_reducible refine Below.alloc ?_ (by first | omega | (simp; done) | (simp; omega)) _))
             · first | omega | (simp; done) | (simp; omega)
             · exact own_lo HO5.out
             intro HB6
             have hcap6 := own_caps hown6
             have hs6 : w4.heap.size ≤ w6.heap.size := HB6.out.size
             clear hown6 hg6 hat6)
          | (refine step_append_want _ (by rfl) (.tmp 89) (.tmp 91) _ (by rfl) w4.heap.size 3 i0 _ 1 8 Tryd.underlying23 hi0 hz0' hza hzb rfl (by omega) (.slice A5 zs.length c5) zs.length (ints zs) ?_ (HO5.out)
               (w4.heap.size + 1) (some ⟨w4.heap.size, 0, none⟩) 1 1 [.int .i64 who] ?_ (reads_of_blk (HK5.out) rfl) (by simp [Value.oneCell']) (by unfold maxLen; omega) (by omega) ?_ ?_
             · rfl
             · rfl
             · first | omega | (simp; done) | (simp; omega)
             intro v6 w6 hown6 hg6 hat6
             obtain ⟨A6, c6, rfl⟩ := own_slice hown6
             have HO6 := Lib.hid (own_snoc hown6)
             refine by_way (P := Hid (Below w4.heap.size w4 w6)) (Lib.hid (Below.grown ?_ hg6 ?_ ?_)) ?_
             · (repeat (first | with_reducible exact Below.refl _ _ | with_reducible exact Hid.out (by assumption) | with_reducible refine Below.drew ?_ | with_reducible refine Below.alloc ?_ (by first | omega | (simp; done) | (simp; omega)) _))
             · first | omega | (simp; done) | (simp; omega)
             · exact own_lo HO5.out
             intro HB6
             have hcap6 := own_caps hown6
             have hs6 : w4.heap.size ≤ w6.heap.size := HB6.out.size
             clear hown6 hg6 hat6)
          | (refine step_append_want _ (by rfl) (.tmp 89) (.tmp 91) _ (by rfl) w4.heap.size 3 i0 _ 1 8 Tryd.underlying23 hi0 hz0' hza hzb rfl (by omega) (.slice A5 zs.length c5) zs.length (ints zs) ?_ (World.ownsRow.alloc HO5.out _)
               (w5.heap.size + 1) (some ⟨w5.heap.size, 0, none⟩) 1 1 [.int .i64 who] ?_ (reads_of_blk (Blk.new' w5 _ _ rfl) rfl) (by simp [Value.oneCell']) (by unfold maxLen; omega) (by omega) ?_ ?_
             · rfl
             · rfl
             · first | omega | (simp; done) | (simp; omega)
             intro v6 w6 hown6 hg6 hat6
             obtain ⟨A6, c6, rfl⟩ := own_slice hown6
             have HO6 := Lib.hid (own_snoc hown6)
             refine by_way (P := Hid (Below w4.heap.size w4 w6)) (Lib.hid (Below.grown ?_ hg6 ?_ ?_)) ?_
             · (repeat (first | with_reducible exact Below.refl _ _ | with_reducible exact Hid.out (by assumption) | with_reducible refine Below.drew ?_ | with_reducible refine Below.alloc ?_ (by first | omega | (simp; done) | (simp; omega)) _))
             · first | omega | (simp; done) | (simp; omega)
             · exact own_lo HO5.out
             intro HB6
             have hcap6 := own_caps hown6
             have hs6 : w4.heap.size ≤ w6.heap.size := HB6.out.size
             clear hown6 hg6 hat6)
          | (go_at_call 26
             refine (sameInts_any A2 A6 (zs.length + 1) (zs.length + 1) c2 c6 w2.heap.size w6.heap.size (zs ++ [who]) (zs ++ [who]) _ (by exact HP4.out.below (HB6.out.mono (by omega))) (by exact Reads.of_own HO6.out) (by omega) (by omega)).mono ?_
             rintro e w7 ⟨rfl, hb7⟩
             have HB7 : Hid (Below w4.heap.size w4 w7) := Lib.hid (HB6.out.trans (hb7.mono (by omega)))
             clear hb7))
      all_goals
        go_wp2
        go_ret
        exact ⟨rfl, HB4.out.trans (HB7.out.mono HB4.out.size)⟩
end Go.Proofs.YtohbmkppfbbngaaDoor
