/-
  What is proved: the contract of impl.LockValid: it returns whether the lock is valid, and leaves everything that was there as it was. Condition: the line reads as a list.
-/
import Derived.Test.YtohbmkppfbbngaaDoorScan
import Derived.Test.YtohbmkppfbbngaaDoorPlain
namespace Go.Proofs.YtohbmkppfbbngaaDoor
open Go.RowKit

set_option maxRecDepth 100000 in
set_option maxHeartbeats 1000000 in
theorem implValid_line (h f : Int) (A : Option Addr) (n c B : Nat) (zs : List Int) (w : World) (hr : Reads w B 1 A n (ints zs)) (hB : B ≤ w.heap.size) (hn : n ≤ c) (hc : c ≤ maxLen)
    (h0 : 0 ≤ h) (h3 : h ≤ 3) (f0 : 0 ≤ f) (f9 : f ≤ 99) :
    Calls Tryd.prog 14 #[.agg #[.int .i64 h, .int .i64 f, .slice A n c]] w fun e w' => e = .returned (.bool (lvB h f zs)) ∧ Below w.heap.size w w' := by
  have hl := hr.len_ints
  have hr1 := hr.alloc hB (.cells #[.int .i64 h, .int .i64 f, .slice A n c] 25)
  have hm1 : n ≤ maxLen := by omega
  unfold maxLen at hc
  have t1 : ¬ h < -1 := by omega
  have t2 : ¬ 4 ≤ h := by omega
  have t3 : ¬ f < 0 := by omega
  have t4 : ¬ 99 < f := by omega
  have t5 : (h == -1) = false := by simp; omega
  go_enter Tryd.func14, Tryd.ntmps14
  go_wp2
  go_loop [33] (fun i => ∃ k : Nat, k ≤ n ∧ i = .int .i64 k ∧ lineOk h (zs.take k)) (fun i => n - (intOf i).toNat)
  case atStart => exact ⟨0, Nat.zero_le _, rfl, by simpa using lineOk_nil h⟩
  case round =>
    obtain ⟨k, hk, rfl, hok⟩ := hrel
    by_cases hlt : k < n
    · have hrt := hr1.take (Nat.le_of_lt hlt)
      rw [← ints_take] at hrt
      obtain ⟨ad, u, rfl, _, hx, hcell⟩ := hr1.at_ hlt
      obtain ⟨z, hz, rfl⟩ := ints_at hx
      have HZ := Lib.hid hz
      have HOK := Lib.hid hok
      have HR := Lib.hid hr1
      have HRT := Lib.hid hrt
      have HL := Lib.hid hl
      clear hz hok hr hr1 hrt hl hx
      by_cases hz0 : 0 ≤ z ∧ z ≤ 3
      · by_cases hh : z = h
        · have hb : (z == h) = true := by simp [hh]
          have HH := Lib.hid hh
          clear hh
          go_wp2_with (go_at_call 32; refine (isConsumer_yes _ _ hz0).mono ?_; rintro e w' ⟨rfl, rfl⟩)
          go_ret
          exact ⟨ret_bool (lvB_line (lineOk_bad HZ.out (.inr (.inr (.inl HH.out))))).symm, (Below.refl _ _).alloc (Nat.le_refl _) _⟩
        · have hb : (z == h) = false := by simp [hh]
          by_cases hm : z ∈ zs.take k
          · have HM := Lib.hid hm
            clear hm
            go_wp2_with (first | (go_at_call 32; refine (isConsumer_yes _ _ hz0).mono ?_; rintro e w' ⟨rfl, rfl⟩) | (go_at_call 33; refine (contains_yes _ _ _ _ _ _ _ HRT.out (by unfold maxLen; omega) HM.out).mono ?_; rintro e w' ⟨rfl, rfl⟩))
            go_ret
            exact ⟨ret_bool (lvB_line (lineOk_bad HZ.out (.inr (.inr (.inr HM.out))))).symm, (Below.refl _ _).alloc (Nat.le_refl _) _⟩
          · have HM := Lib.hid hm
            clear hm
            go_wp2_with (first | (go_at_call 32; refine (isConsumer_yes _ _ hz0).mono ?_; rintro e w' ⟨rfl, rfl⟩) | (go_at_call 33; refine (contains_no _ _ _ _ _ _ _ HRT.out (by unfold maxLen; omega) HM.out).mono ?_; rintro e w' ⟨rfl, rfl⟩))
            go_round
            case rel => exact ⟨k + 1, by omega, by go_num, lineOk_step HZ.out HOK.out hz0.1 hz0.2 hh HM.out⟩
            case measure => simp [intOf]; omega
      · go_wp2_with (go_at_call 32; refine (isConsumer_no _ _ hz0).mono ?_; rintro e w' ⟨rfl, rfl⟩)
        go_ret
        exact ⟨ret_bool (lvB_line (lineOk_bad HZ.out (by omega))).symm, (Below.refl _ _).alloc (Nat.le_refl _) _⟩
    · have HOK := Lib.hid hok
      have HR := Lib.hid hr1
      have HL := Lib.hid hl
      clear hok hr hr1 hl
      by_cases hf : 0 < f
      · go_wp2
        go_ret
        have h1 := HOK.out
        rw [List.take_of_length_le (by have := HL.out; omega)] at h1
        exact ⟨ret_bool (lvB_mk h0 h3 hf f9 h1).symm, (Below.refl _ _).alloc (Nat.le_refl _) _⟩
      · obtain rfl : f = 0 := by omega
        go_wp2
        go_ret
        exact ⟨ret_bool (lvB_zero (by omega)).symm, (Below.refl _ _).alloc (Nat.le_refl _) _⟩

set_option maxRecDepth 100000 in
set_option maxHeartbeats 400000 in
theorem implValid_any (h f : Int) (A : Option Addr) (n c B : Nat) (zs : List Int) (w : World) (hr : Reads w B 1 A n (ints zs)) (hB : B ≤ w.heap.size) (hn : n ≤ c) (hc : c ≤ maxLen) :
    Calls Tryd.prog 14 #[.agg #[.int .i64 h, .int .i64 f, .slice A n c]] w fun e w' => e = .returned (.bool (lvB h f zs)) ∧ Below w.heap.size w w' := by
  have hl := hr.len_ints
  by_cases h1 : h < -1
  · go_enter Tryd.func14, Tryd.ntmps14
    go_wp2
    go_ret
    exact ⟨ret_bool (lvB_out (by omega)).symm, (Below.refl _ _).alloc (Nat.le_refl _) _⟩
  by_cases h2 : 4 ≤ h
  · have h1' : -1 ≤ h := by omega
    go_enter Tryd.func14, Tryd.ntmps14
    go_wp2
    go_ret
    exact ⟨ret_bool (lvB_out (by omega)).symm, (Below.refl _ _).alloc (Nat.le_refl _) _⟩
  by_cases h3 : f < 0
  · have h1' : -1 ≤ h := by omega
    have h2' : h < 4 := by omega
    go_enter Tryd.func14, Tryd.ntmps14
    go_wp2
    go_ret
    exact ⟨ret_bool (lvB_out (by omega)).symm, (Below.refl _ _).alloc (Nat.le_refl _) _⟩
  by_cases h4 : 99 < f
  · have h1' : -1 ≤ h := by omega
    have h2' : h < 4 := by omega
    have h3' : 0 ≤ f := by omega
    go_enter Tryd.func14, Tryd.ntmps14
    go_wp2
    go_ret
    exact ⟨ret_bool (lvB_out (by omega)).symm, (Below.refl _ _).alloc (Nat.le_refl _) _⟩
  by_cases h5 : h = -1
  · subst h5
    have h3' : 0 ≤ f := by omega
    have h4' : f ≤ 99 := by omega
    have HL := Lib.hid hl
    clear hl hr
    go_enter Tryd.func14, Tryd.ntmps14
    go_wp2
    go_ret
    refine ⟨ret_bool ?_, (Below.refl _ _).alloc (Nat.le_refl _) _⟩
    rw [lvB_free h3' h4', HL.out]
    rw [Bool.eq_iff_iff]
    simp
  · exact implValid_line h f A n c B zs w hr hB hn hc (by omega) (by omega) (by omega) (by omega)
end Go.Proofs.YtohbmkppfbbngaaDoor
