/-
  What is proved: the contracts of the small functions that only read: impl.contains, spec.l1Has (is a number in a list), impl.isConsumer, spec.l6In (is a number in a range). Condition of the two on lists: the slice reads as the list.
-/
import Derived.Test.YtohbmkppfbbngaaDoorProg
import Derived.Test.YtohbmkppfbbngaaDoorWords
import Derived.WalkKit
import Derived.BigQuiet
import Derived.Deep.QuietTactic
namespace Go.Proofs.YtohbmkppfbbngaaDoor
open Go.RowKit

theorem ret_bool {a b : Bool} (h : a = b) : Ending.returned (.bool a) = .returned (.bool b) := by rw [h]
theorem ret_int {k : IntKind} {a b : Int} (h : a = b) : Ending.returned (.int k a) = .returned (.int k b) := by rw [h]
def ints (zs : List Int) : List Value := zs.map (Value.int .i64)
theorem ints_at {zs : List Int} {k : Nat} {u : Value} (h : (ints zs)[k]? = some u) : ∃ z, zs[k]? = some z ∧ u = .int .i64 z := by
  unfold ints at h
  rw [List.getElem?_map] at h
  cases hz : zs[k]? with
  | none => rw [hz] at h; cases h
  | some z => rw [hz] at h; exact ⟨z, rfl, by injection h with h; exact h.symm⟩
theorem ints_len (zs : List Int) : (ints zs).length = zs.length := by simp [ints]
theorem Reads.len_ints {w : World} {B n : Nat} {A : Option Addr} {zs : List Int} (h : Reads w B 1 A n (ints zs)) : zs.length = n := by
  have := h.1
  rw [ints_len] at this
  omega

theorem take_has {zs : List Int} {k : Nat} {z x : Int} (hz : zs[k]? = some z) (h : ¬ x ∈ zs.take k) : x ∈ zs.take (k + 1) ↔ z = x := by
  rw [List.take_add_one, hz]
  simp [h, eq_comm]
theorem mem_of_at {zs : List Int} {k : Nat} {z : Int} (hz : zs[k]? = some z) : z ∈ zs := List.mem_of_getElem? hz

set_option maxRecDepth 100000 in
set_option maxHeartbeats 400000 in
theorem contains_any (A : Option Addr) (n c B : Nat) (zs : List Int) (x : Int) (w : World) (hr : Reads w B 1 A n (ints zs)) (hn : n ≤ maxLen) :
    Calls Tryd.prog 33 #[.slice A n c, .int .i64 x] w fun e w' => e = .returned (.bool (decide (x ∈ zs))) ∧ w = w' := by
  have hl := hr.len_ints
  unfold maxLen at hn
  go_enter Tryd.func33, Tryd.ntmps33
  go_wp2
  go_loop [9] (fun i => ∃ k : Nat, k ≤ n ∧ i = .int .i64 k ∧ ¬ x ∈ zs.take k) (fun i => n - (intOf i).toNat)
  case atStart => exact ⟨0, Nat.zero_le _, rfl, by simp⟩
  case round =>
    obtain ⟨k, hk, rfl, hno⟩ := hrel
    by_cases hlt : k < n
    · obtain ⟨ad, u, rfl, _, hx, hc⟩ := hr.at_ hlt
      obtain ⟨z, hz, rfl⟩ := ints_at hx
      have HZ := Lib.hid hz
      have HNO := Lib.hid hno
      have HR := Lib.hid hr
      have HL := Lib.hid hl
      clear hz hno hr hl hx
      by_cases he : z = x
      · subst he
        go_wp2
        go_ret
        have : z ∈ zs := mem_of_at HZ.out
        simp [this]
      · have hb : (z == x) = false := by simp [he]
        go_wp2
        go_round
        case rel => exact ⟨k + 1, by omega, by go_num, fun h => he ((take_has HZ.out HNO.out).1 h)⟩
        case measure => simp [intOf]; omega
    · have HNO := Lib.hid hno
      have HR := Lib.hid hr
      have HL := Lib.hid hl
      clear hno hr hl
      go_wp2
      go_ret
      have h1 := HNO.out
      rw [List.take_of_length_le (by have := HL.out; omega)] at h1
      simp [h1]


set_option maxRecDepth 100000 in
set_option maxHeartbeats 400000 in
theorem l1Has_any (A : Option Addr) (n c B : Nat) (zs : List Int) (x : Int) (w : World) (hr : Reads w B 1 A n (ints zs)) (hn : n ≤ maxLen) :
    Calls Tryd.prog 35 #[.slice A n c, .int .i64 x] w fun e w' => e = .returned (.bool (decide (x ∈ zs))) ∧ w = w' := by
  have hl := hr.len_ints
  unfold maxLen at hn
  go_enter Tryd.func35, Tryd.ntmps35
  go_wp2
  go_loop [5] (fun i => ∃ k : Nat, k ≤ n ∧ i = .int .i64 k ∧ ¬ x ∈ zs.take k) (fun i => n - (intOf i).toNat)
  case atStart => exact ⟨0, Nat.zero_le _, rfl, by simp⟩
  case round =>
    obtain ⟨k, hk, rfl, hno⟩ := hrel
    by_cases hlt : k < n
    · obtain ⟨ad, u, rfl, _, hx, hc⟩ := hr.at_ hlt
      obtain ⟨z, hz, rfl⟩ := ints_at hx
      have HZ := Lib.hid hz
      have HNO := Lib.hid hno
      have HR := Lib.hid hr
      have HL := Lib.hid hl
      clear hz hno hr hl hx
      by_cases he : z = x
      · subst he
        go_wp2
        go_ret
        have : z ∈ zs := mem_of_at HZ.out
        simp [this]
      · have hb : (z == x) = false := by simp [he]
        go_wp2
        go_round
        case rel => exact ⟨k + 1, by omega, by go_num, fun h => he ((take_has HZ.out HNO.out).1 h)⟩
        case measure => simp [intOf]; omega
    · have HNO := Lib.hid hno
      have HR := Lib.hid hr
      have HL := Lib.hid hl
      clear hno hr hl
      go_wp2
      go_ret
      have h1 := HNO.out
      rw [List.take_of_length_le (by have := HL.out; omega)] at h1
      simp [h1]

def inB (x a b : Int) : Bool := decide (a ≤ x ∧ x ≤ b)
theorem inB_yes {x a b : Int} (h : a ≤ x ∧ x ≤ b) : inB x a b = true := by simp [inB, h]
theorem inB_no {x a b : Int} (h : ¬ (a ≤ x ∧ x ≤ b)) : inB x a b = false := by simp only [inB, decide_eq_false_iff_not]; exact h

theorem l6In_any (x a b : Int) (w : World) :
    Calls Tryd.prog 34 #[.int .i64 x, .int .i64 a, .int .i64 b] w fun e w' => e = .returned (.bool (inB x a b)) ∧ w = w' := by
  by_cases h1 : a ≤ x
  · by_cases h2 : x ≤ b
    · go_enter Tryd.func34, Tryd.ntmps34
      go_wp2
      go_ret
      simp [inB, h1, h2]
    · go_enter Tryd.func34, Tryd.ntmps34
      go_wp2
      go_ret
      simp [inB, h1, h2]
  · go_enter Tryd.func34, Tryd.ntmps34
    go_wp2
    go_ret
    simp [inB]
    omega
theorem isConsumer_any (x : Int) (w : World) :
    Calls Tryd.prog 32 #[.int .i64 x] w fun e w' => e = .returned (.bool (inB x 0 3)) ∧ w = w' := by
  by_cases h1 : 0 ≤ x
  · by_cases h2 : x ≤ 3
    · have h3 : x < 4 := by omega
      go_enter Tryd.func32, Tryd.ntmps32
      go_wp2
      go_ret
      simp [inB, h1, h2]
    · have h3 : ¬ x < 4 := by omega
      go_enter Tryd.func32, Tryd.ntmps32
      go_wp2
      go_ret
      simp [inB, h1, h2]
  · go_enter Tryd.func32, Tryd.ntmps32
    go_wp2
    go_ret
    simp [inB]
    omega


theorem isConsumer_yes (x : Int) (w : World) (h : 0 ≤ x ∧ x ≤ 3) : Calls Tryd.prog 32 #[.int .i64 x] w fun e w' => e = .returned (.bool true) ∧ w = w' :=
  (isConsumer_any x w).mono fun _ _ hh => ⟨hh.1.trans (by rw [inB_yes h]), hh.2⟩
theorem isConsumer_no (x : Int) (w : World) (h : ¬ (0 ≤ x ∧ x ≤ 3)) : Calls Tryd.prog 32 #[.int .i64 x] w fun e w' => e = .returned (.bool false) ∧ w = w' :=
  (isConsumer_any x w).mono fun _ _ hh => ⟨hh.1.trans (by rw [inB_no h]), hh.2⟩
theorem l6In_yes (x a b : Int) (w : World) (h : a ≤ x ∧ x ≤ b) : Calls Tryd.prog 34 #[.int .i64 x, .int .i64 a, .int .i64 b] w fun e w' => e = .returned (.bool true) ∧ w = w' :=
  (l6In_any x a b w).mono fun _ _ hh => ⟨hh.1.trans (by rw [inB_yes h]), hh.2⟩
theorem l6In_no (x a b : Int) (w : World) (h : ¬ (a ≤ x ∧ x ≤ b)) : Calls Tryd.prog 34 #[.int .i64 x, .int .i64 a, .int .i64 b] w fun e w' => e = .returned (.bool false) ∧ w = w' :=
  (l6In_any x a b w).mono fun _ _ hh => ⟨hh.1.trans (by rw [inB_no h]), hh.2⟩
theorem contains_yes (A : Option Addr) (n c B : Nat) (zs : List Int) (x : Int) (w : World) (hr : Reads w B 1 A n (ints zs)) (hn : n ≤ maxLen) (h : x ∈ zs) :
    Calls Tryd.prog 33 #[.slice A n c, .int .i64 x] w fun e w' => e = .returned (.bool true) ∧ w = w' :=
  (contains_any A n c B zs x w hr hn).mono fun _ _ hh => ⟨hh.1.trans (by rw [decide_eq_true h]), hh.2⟩
theorem contains_no (A : Option Addr) (n c B : Nat) (zs : List Int) (x : Int) (w : World) (hr : Reads w B 1 A n (ints zs)) (hn : n ≤ maxLen) (h : ¬ x ∈ zs) :
    Calls Tryd.prog 33 #[.slice A n c, .int .i64 x] w fun e w' => e = .returned (.bool false) ∧ w = w' :=
  (contains_any A n c B zs x w hr hn).mono fun _ _ hh => ⟨hh.1.trans (by rw [decide_eq_false h]), hh.2⟩
theorem l1Has_yes (A : Option Addr) (n c B : Nat) (zs : List Int) (x : Int) (w : World) (hr : Reads w B 1 A n (ints zs)) (hn : n ≤ maxLen) (h : x ∈ zs) :
    Calls Tryd.prog 35 #[.slice A n c, .int .i64 x] w fun e w' => e = .returned (.bool true) ∧ w = w' :=
  (l1Has_any A n c B zs x w hr hn).mono fun _ _ hh => ⟨hh.1.trans (by rw [decide_eq_true h]), hh.2⟩
theorem l1Has_no (A : Option Addr) (n c B : Nat) (zs : List Int) (x : Int) (w : World) (hr : Reads w B 1 A n (ints zs)) (hn : n ≤ maxLen) (h : ¬ x ∈ zs) :
    Calls Tryd.prog 35 #[.slice A n c, .int .i64 x] w fun e w' => e = .returned (.bool false) ∧ w = w' :=
  (l1Has_any A n c B zs x w hr hn).mono fun _ _ hh => ⟨hh.1.trans (by rw [decide_eq_false h]), hh.2⟩
theorem ints_take (zs : List Int) (k : Nat) : ints (zs.take k) = (ints zs).take k := by simp [ints, List.map_take]
theorem Reads.take {w : World} {B n k : Nat} {A : Option Addr} {xs : List Value} (h : Reads w B 1 A n xs) (hk : k ≤ n) : Reads w B 1 A k (xs.take k) :=
  ⟨by have := h.1; rw [List.length_take]; omega, fun h0 => by
    obtain ⟨ad, e, hb, hc⟩ := h.2 (by omega)
    refine ⟨ad, e, hb, fun j u hu => hc j u ?_⟩
    rw [List.getElem?_take] at hu
    split at hu
    · exact hu
    · cases hu⟩

end Go.Proofs.YtohbmkppfbbngaaDoor
