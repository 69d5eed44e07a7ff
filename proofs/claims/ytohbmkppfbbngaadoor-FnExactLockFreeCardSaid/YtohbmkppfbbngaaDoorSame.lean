/-
  What is proved: the contracts of laws.sameInts and laws.sameLock: they compare two lists, two locks. Condition: the lists read as lists.
-/
import Derived.Test.YtohbmkppfbbngaaDoorCopy
namespace Go.Proofs.YtohbmkppfbbngaaDoor
open Go.RowKit

set_option maxRecDepth 100000 in
set_option maxHeartbeats 1000000 in
theorem sameInts_any (A A' : Option Addr) (n n' c c' B B' : Nat) (xs ys : List Int) (w : World) (hr : Reads w B 1 A n (ints xs)) (hr' : Reads w B' 1 A' n' (ints ys)) (hn : n ≤ maxLen) (hn' : n' ≤ maxLen) :
    Calls Tryd.prog 26 #[.slice A n c, .slice A' n' c'] w fun e w' => e = .returned (.bool (eqB xs ys)) ∧ Below w.heap.size w w' := by
  have hl := hr.len_ints
  have hl' := hr'.len_ints
  have HL := Lib.hid hl
  have HL' := Lib.hid hl'
  unfold maxLen at hn hn'
  by_cases hne : n = n'
  · subst hne
    have hb : ((n : Int) != n) = false := by simp
    clear hl hl'
    go_enter Tryd.func26, Tryd.ntmps26
    go_wp2
    go_loopw [5] (fun i wr => ∃ k a : Nat, k ≤ n ∧ i = .int .i64 k ∧ Hid (xs.take k = ys.take k) ∧ wr = w.drewN a) (fun i _ => n - (intOf i).toNat)
    case atStart => exact ⟨0, 0, Nat.zero_le _, rfl, rfl, rfl⟩
    case round =>
      obtain ⟨k, a, hk, rfl, hok, rfl⟩ := hrel
      by_cases hlt : k < n
      · obtain ⟨ad, u, rfl, _, hx, hcell⟩ := hr.at_ hlt
        obtain ⟨z, hz, rfl⟩ := ints_at hx
        obtain ⟨ad', u', rfl, _, hx', hcell'⟩ := hr'.at_ hlt
        obtain ⟨z', hz', rfl⟩ := ints_at hx'
        have HZ := Lib.hid hz
        have HZ' := Lib.hid hz'
        have HR := Lib.hid hr
        have HR' := Lib.hid hr'
        clear hz hz' hr hr' hx hx'
        by_cases hh : z = z'
        · subst hh
          have hb : (z != z) = false := by simp
          go_wp2_with (fail)
          go_quiet (fail)
          go_wp2
          go_roundw
          case rel => exact ⟨k + 1, _, by omega, by go_num, take_eq_step HZ.out HZ'.out hok.out, rfl⟩
          case measure => simp [intOf]; omega
        · have hb : (z != z') = true := by simp [hh]
          go_wp2_with (fail)
          go_quiet (fail)
          go_wp2
          go_ret
          exact ⟨ret_bool (eqB_at HZ.out HZ'.out hh).symm, below_drewN (below_drewN (Below.refl _ _) _) _⟩
      · have HR := Lib.hid hr
        have HR' := Lib.hid hr'
        clear hr hr'
        go_wp2
        go_ret
        refine ⟨ret_bool (eqB_all ?_ ?_).symm, below_drewN (Below.refl _ _) _⟩
        · have h1 := hok.out
          have : n = k := by omega
          rw [HL.out, this]; exact h1
        · rw [HL.out, HL'.out]
  · have hb : ((n : Int) != n') = true := by simp; omega
    clear hl hl' hr hr'
    go_enter Tryd.func26, Tryd.ntmps26
    go_wp2
    go_ret
    exact ⟨ret_bool (eqB_len (by rw [HL.out, HL'.out]; exact hne)).symm, Below.refl _ _⟩

set_option maxRecDepth 100000 in
set_option maxHeartbeats 1000000 in
theorem sameLock_any (h f h' f' : Int) (A A' : Option Addr) (n n' c c' B B' : Nat) (xs ys : List Int) (w : World) (hr : Reads w B 1 A n (ints xs)) (hr' : Reads w B' 1 A' n' (ints ys)) (hB : B ≤ w.heap.size) (hB' : B' ≤ w.heap.size) (hn : n ≤ maxLen) (hn' : n' ≤ maxLen) :
    Calls Tryd.prog 25 #[.agg #[.int .i64 h, .int .i64 f, .slice A n c], .agg #[.int .i64 h', .int .i64 f', .slice A' n' c']] w fun e w' => e = .returned (.bool (eqLB h f xs h' f' ys)) ∧ Below w.heap.size w w' := by
  have HR := Lib.hid hr
  have HR' := Lib.hid hr'
  clear hr hr'
  by_cases e1 : h = h'
  · subst e1
    have t1 : (h == h) = true := by simp
    by_cases e2 : f = f'
    · subst e2
      have t2 : (f == f) = true := by simp
      have HE : Hid (eqLB h f xs h f ys = eqB xs ys) := Lib.hid eqLB_l
      cases e4 : eqB xs ys
      all_goals
        go_enter Tryd.func25, Tryd.ntmps25
        go_wp2_with (fail)
        refine (sameInts_any A A' n n' c c' B B' xs ys _ ((HR.out.alloc hB _).alloc (by simp; omega) _) ((HR'.out.alloc hB' _).alloc (by simp; omega) _) hn hn').mono ?_
        rintro e w1 ⟨rfl, hb⟩
        have HB := Lib.hid hb
        clear hb
        go_wp2
        go_ret
        exact ⟨ret_bool (by rw [HE.out, e4]), (((Below.refl _ _).alloc (Nat.le_refl _) _).alloc (by simp) _).trans (HB.out.mono (by simp; omega))⟩
    · have t2 : (f == f') = false := by simp [e2]
      go_enter Tryd.func25, Tryd.ntmps25
      go_wp2
      go_ret
      exact ⟨ret_bool (eqLB_f e2).symm, ((Below.refl _ _).alloc (Nat.le_refl _) _).alloc (by simp) _⟩
  · have t1 : (h == h') = false := by simp [e1]
    go_enter Tryd.func25, Tryd.ntmps25
    go_wp2
    go_ret
    exact ⟨ret_bool (eqLB_h e1).symm, ((Below.refl _ _).alloc (Nat.le_refl _) _).alloc (by simp) _⟩
end Go.Proofs.YtohbmkppfbbngaaDoor
