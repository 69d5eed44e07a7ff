/-
  What is proved: the contract of spec.LockValid: it returns whether the lock is valid, and leaves everything that was there as it was. Condition: the line reads as a list.
-/
import Derived.Test.YtohbmkppfbbngaaDoorScan
import Derived.Test.YtohbmkppfbbngaaDoorPlain
import Derived.WalkSmall
namespace Go.Proofs.YtohbmkppfbbngaaDoor
open Go.RowKit

theorem quiet_add_left {P : Program} {f : FuncId} {args : Array Value} {w : World} {a n : Nat} {v : Value}
    (h : Calls P f args (w.drewN (a + n)) fun e w' => e = .returned v ∧ w.drewN (a + n) = w') :
    Calls P f args (w.drewN (a + n)) fun e w'' => e = .returned v ∧ ∃ m, w'' = w.drewN (a + m) :=
  h.mono fun _ _ ⟨he, hm⟩ => ⟨he, n, hm.symm⟩
theorem quiet_left {P : Program} {f : FuncId} {args : Array Value} {w : World} {n : Nat} {v : Value}
    (h : Calls P f args (w.drewN n) fun e w' => e = .returned v ∧ w.drewN n = w') : Calls P f args (w.drewN n) fun e w'' => e = .returned v ∧ ∃ m, w'' = w.drewN m :=
  h.mono fun _ _ ⟨he, hm⟩ => ⟨he, n, hm.symm⟩

set_option maxRecDepth 100000 in
set_option maxHeartbeats 1000000 in
theorem specValid_line (h f : Int) (A : Option Addr) (n c B : Nat) (zs : List Int) (w : World) (hr : Reads w B 1 A n (ints zs)) (hB : B ≤ w.heap.size) (hn : n ≤ c) (hc : c ≤ maxLen)
    (h0 : 0 ≤ h) (h3 : h ≤ 3) (f0 : 0 < f) (f9 : f ≤ 99) :
    Calls Tryd.prog 15 #[.agg #[.int .i64 h, .int .i64 f, .slice A n c]] w fun e w' => e = .returned (.bool (lvB h f zs)) ∧ Below w.heap.size w w' := by
  have hl := hr.len_ints
  have hr1 := hr.alloc hB (.cells #[.int .i64 h, .int .i64 f, .slice A n c] 25)
  have hm1 : n ≤ maxLen := by omega
  unfold maxLen at hc
  have t1 : inB h (-1) 3 = true := inB_yes (by omega)
  have t2 : inB f 0 99 = true := inB_yes (by omega)
  have t3 : ¬ h < 0 := by omega
  have t5 : (f == 0) = false := by simp; omega
  go_enter Tryd.func15, Tryd.ntmps15
  go_wp2_with (go_at_call 34; refine (l6In_any _ _ _ _).mono ?_; rintro e w' ⟨rfl, rfl⟩)
  go_loopw [3] (fun i wr => ∃ k a : Nat, k ≤ n ∧ i = .int .i64 k ∧ lineOk h (zs.take k) ∧ wr = (w.alloc (.cells #[.int .i64 h, .int .i64 f, .slice A n c] 25)).drewN a) (fun i _ => n - (intOf i).toNat)
  case atStart => exact ⟨0, 0, Nat.zero_le _, rfl, by simpa using lineOk_nil h, rfl⟩
  case round =>
    obtain ⟨k, a, hk, rfl, hok, rfl⟩ := hrel
    by_cases hlt : k < n
    · have hrt := hr1.take (Nat.le_of_lt hlt)
      rw [← ints_take] at hrt
      obtain ⟨ad, u, rfl, _, hx, hcell⟩ := hr1.at_ hlt
      obtain ⟨z, hz, rfl⟩ := ints_at hx
      have HZ := Lib.hid hz
      have HOK := Lib.hid hok
      have HR := Lib.hid hr1
      have HRT := Lib.hid hrt
      have HL := Lib.hid hl
      clear hz hok hr hr1 hrt hl hx
      by_cases hz0 : 0 ≤ z ∧ z ≤ 3
      · by_cases hh : z = h
        · have hb : (z == h) = true := by simp [hh]
          have HH := Lib.hid hh
          have tz : inB z 0 3 = true := inB_yes hz0
          clear hh
          go_wp2_with (fail)
          go_quiet ((go_at_call 34; exact quiet_add_left (l6In_any _ _ _ _)))
          go_wp2
          go_ret
          exact ⟨ret_bool (lvB_line (lineOk_bad HZ.out (.inr (.inr (.inl HH.out))))).symm, below_drewN (below_drewN ((Below.refl _ _).alloc (Nat.le_refl _) _) _) _⟩
        · have hb : (z == h) = false := by simp [hh]
          have tz : inB z 0 3 = true := inB_yes hz0
          by_cases hm : z ∈ zs.take k
          · have HM := Lib.hid hm
            clear hm
            go_wp2_with (fail)
            go_quiet ((first | (go_at_call 34; exact quiet_add_left (l6In_any _ _ _ _)) | (go_at_call 35; exact quiet_add_left (l1Has_yes _ _ _ _ _ _ _ (HRT.out.drewN _) (by unfold maxLen; omega) HM.out))))
            go_wp2
            go_ret
            exact ⟨ret_bool (lvB_line (lineOk_bad HZ.out (.inr (.inr (.inr HM.out))))).symm, below_drewN (below_drewN ((Below.refl _ _).alloc (Nat.le_refl _) _) _) _⟩
          · have HM := Lib.hid hm
            clear hm
            go_wp2_with (fail)
            go_quiet ((first | (go_at_call 34; exact quiet_add_left (l6In_any _ _ _ _)) | (go_at_call 35; exact quiet_add_left (l1Has_no _ _ _ _ _ _ _ (HRT.out.drewN _) (by unfold maxLen; omega) HM.out))))
            go_wp2
            go_roundw
            case rel => exact ⟨k + 1, _, by omega, by go_num, lineOk_step HZ.out HOK.out hz0.1 hz0.2 hh HM.out, rfl⟩
            case measure => simp [intOf]; omega
      · have tz : inB z 0 3 = false := inB_no hz0
        go_wp2_with (fail)
        go_quiet ((go_at_call 34; exact quiet_add_left (l6In_any _ _ _ _)))
        go_wp2
        go_ret
        exact ⟨ret_bool (lvB_line (lineOk_bad HZ.out (by omega))).symm, below_drewN (below_drewN ((Below.refl _ _).alloc (Nat.le_refl _) _) _) _⟩
    · have HOK := Lib.hid hok
      have HR := Lib.hid hr1
      have HL := Lib.hid hl
      clear hok hr hr1 hl
      go_wp2
      go_ret
      have h1 := HOK.out
      rw [List.take_of_length_le (by have := HL.out; omega)] at h1
      exact ⟨ret_bool (lvB_mk h0 h3 f0 f9 h1).symm, below_drewN ((Below.refl _ _).alloc (Nat.le_refl _) _) _⟩

set_option maxRecDepth 100000 in
set_option maxHeartbeats 400000 in
theorem specValid_any (h f : Int) (A : Option Addr) (n c B : Nat) (zs : List Int) (w : World) (hr : Reads w B 1 A n (ints zs)) (hB : B ≤ w.heap.size) (hn : n ≤ c) (hc : c ≤ maxLen) :
    Calls Tryd.prog 15 #[.agg #[.int .i64 h, .int .i64 f, .slice A n c]] w fun e w' => e = .returned (.bool (lvB h f zs)) ∧ Below w.heap.size w w' := by
  have hl := hr.len_ints
  by_cases h1 : -1 ≤ h ∧ h ≤ 3
  · have t1 : inB h (-1) 3 = true := inB_yes h1
    by_cases h2 : 0 ≤ f ∧ f ≤ 99
    · have t2 : inB f 0 99 = true := inB_yes h2
      by_cases h3 : h = -1
      · subst h3
        by_cases h4 : n = 0
        · have HL := Lib.hid hl
          subst h4
          clear hr hl
          go_enter Tryd.func15, Tryd.ntmps15
          go_wp2_with (go_at_call 34; refine (l6In_any _ _ _ _).mono ?_; rintro e w' ⟨rfl, rfl⟩)
          refine wp_loop_rounds 1 ?_
          rw [rounds_succ]
          go_wp2
          go_ret
          refine ⟨ret_bool ?_, (Below.refl _ _).alloc (Nat.le_refl _) _⟩
          rw [lvB_free h2.1 h2.2, HL.out]
          rfl
        · have h5 : 0 < n := by omega
          have HL := Lib.hid hl
          clear hr hl
          go_enter Tryd.func15, Tryd.ntmps15
          go_wp2_with (go_at_call 34; refine (l6In_any _ _ _ _).mono ?_; rintro e w' ⟨rfl, rfl⟩)
          go_ret
          refine ⟨ret_bool ?_, (Below.refl _ _).alloc (Nat.le_refl _) _⟩
          rw [lvB_free h2.1 h2.2, HL.out]
          simp [h4]
      · by_cases h4 : f = 0
        · subst h4
          have h5 : 0 ≤ h := by omega
          clear hr hl
          go_enter Tryd.func15, Tryd.ntmps15
          go_wp2_with (go_at_call 34; refine (l6In_any _ _ _ _).mono ?_; rintro e w' ⟨rfl, rfl⟩)
          go_ret
          exact ⟨ret_bool (lvB_zero (by omega)).symm, (Below.refl _ _).alloc (Nat.le_refl _) _⟩
        · exact specValid_line h f A n c B zs w hr hB hn hc (by omega) (by omega) (by omega) (by omega)
    · have t2 : inB f 0 99 = false := inB_no h2
      clear hr hl
      go_enter Tryd.func15, Tryd.ntmps15
      go_wp2_with (go_at_call 34; refine (l6In_any _ _ _ _).mono ?_; rintro e w' ⟨rfl, rfl⟩)
      go_ret
      exact ⟨ret_bool (lvB_out (by omega)).symm, (Below.refl _ _).alloc (Nat.le_refl _) _⟩
  · have t1 : inB h (-1) 3 = false := inB_no h1
    clear hr hl
    go_enter Tryd.func15, Tryd.ntmps15
    go_wp2_with (go_at_call 34; refine (l6In_any _ _ _ _).mono ?_; rintro e w' ⟨rfl, rfl⟩)
    go_ret
    exact ⟨ret_bool (lvB_out (by omega)).symm, (Below.refl _ _).alloc (Nat.le_refl _) _⟩
end Go.Proofs.YtohbmkppfbbngaaDoor
