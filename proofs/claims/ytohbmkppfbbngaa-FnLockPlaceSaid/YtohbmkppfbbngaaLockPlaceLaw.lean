/-
  What is proved: laws.FnLockPlace returns true for every code, and nothing that was there changes. Condition: the code reads as bytes.
-/
import Derived.Test.YtohbmkppfbbngaaDrawn
namespace Go.Proofs.Ytohbmkppfbbngaa
open Go.RowKit

set_option maxRecDepth 100000 in
set_option maxHeartbeats 4000000 in
theorem lockPlaceLaw_any (A : Option Addr) (n c B : Nat) (bs : List Int) (w : World) (hr : Reads w B 1 A n (bys bs)) (hB : B ≤ w.heap.size) (hb : Bytes bs) (hnc : n ≤ c) (hc : c ≤ maxLen) :
    Calls Try.prog 6 #[.slice A n c] w fun e w' => e = .returned (.bool true) ∧ Below w.heap.size w w' := by
  have HR := Lib.hid hr
  have HB := Lib.hid hb
  clear hr hb
  have hc' : c ≤ 9223372036854775807 := by unfold maxLen at hc; omega
  by_cases hn : 1048576 < n
  · go_enter Try.func6, Try.ntmps6
    go_wp2_with (fail)
    go_ret
    exact ⟨rfl, Below.refl _ _⟩
  go_enter Try.func6, Try.ntmps6
  go_wp2_with (fail)
  refine (drawPlace_any A n c B bs w HR.out hB HB.out hnc hc).mono ?_
  rintro e w1 ⟨h, f, zs, A1, c1, who, rfl, hown1, hb1, hdb, hw0, hw1⟩
  have hcap := own_caps hown1
  have HR1 := Lib.hid (Reads.of_own hown1)
  have HB1 := Lib.hid hb1
  have HD := Lib.hid hdb
  have hz1 : w.heap.size ≤ w1.heap.size := hb1.size
  clear hown1 hb1 hdb
  go_wp2_with (fail)
  refine (implPlace_any h f who A1 zs.length c1 w1.heap.size zs _ (by exact HR1.out.alloc (Nat.le_refl _) _) (by simp) hcap.1 hcap.2).mono ?_
  rintro e w2 ⟨rfl, hb2⟩
  have HX2 := Lib.hid ((Blk.new w1 27 #[.int .i64 h, .int .i64 f, .slice A1 zs.length c1]).below hb2 (by simp))
  have HR2 := Lib.hid ((HR1.out.alloc (Nat.le_refl _) (.cells #[.int .i64 h, .int .i64 f, .slice A1 zs.length c1] 27)).below (hb2.mono (by simp)))
  have HB2 : Hid (Below w.heap.size w w2) := Lib.hid ((HB1.out.alloc hz1 _).trans (hb2.mono (by simp; omega)))
  have x2 := HX2.out.cell
  have hz2 := HX2.out.lt
  clear hb2 HR1 HB1
  go_wp2_with (fail)
  refine (specPlace_any h f who A1 zs.length c1 w1.heap.size zs _ (by exact HR2.out) (by omega) hcap.1 hcap.2).mono ?_
  rintro e w3 ⟨rfl, hb3⟩
  have HX3 := Lib.hid (HX2.out.below hb3 hz2)
  have HR3 := Lib.hid (HR2.out.below (hb3.mono (by omega)))
  have HB3 : Hid (Below w.heap.size w w3) := Lib.hid (HB2.out.trans (hb3.mono (by omega)))
  have x3 := HX3.out.cell
  have hz3 := HX3.out.lt
  clear hb3 HR2 HB2 HX2 x2
  have hv : (lpI h f zs who != lpI h f zs who) = false := by simp
  have hv2 : (lpI h f zs who == lpI h f zs who) = true := by simp
  go_wp2_with (fail)
  refine (specValid_any h f A1 zs.length c1 w1.heap.size zs _ (by exact HR3.out) (by omega) hcap.1 hcap.2).mono ?_
  rintro e w4 ⟨rfl, hb4⟩
  have HX4 := Lib.hid (HX3.out.below hb4 hz3)
  have HR4 := Lib.hid (HR3.out.below (hb4.mono (by omega)))
  have HB4 : Hid (Below w.heap.size w w4) := Lib.hid (HB3.out.trans (hb4.mono (by omega)))
  have x4 := HX4.out.cell
  have hz4 := HX4.out.lt
  clear hb4 HR3 HB3 HX3 x3
  cases hl : lvB h f zs
  · go_wp2_with (fail)
    go_ret
    exact ⟨rfl, HB4.out⟩
  by_cases w0 : who < 0
  · go_wp2_with (fail)
    go_ret
    exact ⟨rfl, HB4.out⟩
  by_cases w4' : 4 ≤ who
  · go_wp2_with (fail)
    go_ret
    exact ⟨rfl, HB4.out⟩
  have HP : Hid (lpI h f zs who = placeI h zs who) := Lib.hid (by unfold lpI; rw [if_pos ⟨hl, by omega⟩])
  have hlen : zs.length ≤ 6 := HD.out.2.2.2.2
  by_cases hh : who = h
  · have t1 : (who == h) = true := by simp [hh]
    have t2 : (lpI h f zs who == 0) = true := by rw [HP.out, hh, placeI_holder]; rfl
    clear hh
    go_wp2_with (fail)
    go_ret
    exact ⟨rfl, HB4.out⟩
  · have t1 : (who == h) = false := by simp [hh]
    go_wp2_with (fail)
    go_loop [7] (fun i => ∃ k : Nat, k ≤ zs.length ∧ i = .int .i64 k ∧ Hid (¬ who ∈ zs.take k)) (fun i => zs.length - (intOf i).toNat)
    case atStart => exact ⟨0, Nat.zero_le _, rfl, by simp [Hid]⟩
    case round =>
      obtain ⟨k, hk, rfl, hno⟩ := hrel
      by_cases hlt : k < zs.length
      · obtain ⟨ad, u, rfl, _, hx, hcell⟩ := HR4.out.at_ hlt
        obtain ⟨z, hz, rfl⟩ := ints_at hx
        have HZ := Lib.hid hz
        clear hz hx
        by_cases he : z = who
        · have hb : (z == who) = true := by simp [he]
          have HE := Lib.hid he
          have t2 : (lpI h f zs who == (k : Int) + 1) = true := by
            rw [HP.out, placeI_line (by rw [HZ.out, HE.out]) (fun e => hh e.symm) hno.out]; simp
          clear he
          go_wp2
          go_ret
          exact ⟨rfl, HB4.out⟩
        · have hb : (z == who) = false := by simp [he]
          go_wp2
          go_round
          case rel => exact ⟨k + 1, by omega, by go_num, Lib.hid fun h1 => he ((take_has HZ.out hno.out).1 h1)⟩
          case measure => simp [intOf]; omega
      · have t2 : (lpI h f zs who == -1) = true := by
          rw [HP.out, placeI_no (fun e => hh e.symm) (by have := hno.out; rwa [List.take_of_length_le (by omega)] at this)]; rfl
        go_wp2
        go_ret
        exact ⟨rfl, HB4.out⟩
end Go.Proofs.Ytohbmkppfbbngaa
