/-
  What is proved: the contracts of laws.markIntS, markLock, heldIntS and heldLock: the first two write the numbers from k on into a line and return the number behind the last; the other two find them there. Condition: the line is a row of the call's own, or reads as a list.
-/
import Derived.Test.YtohbmkppfbbngaaDoorSame
import Derived.Test.YtohbmkppfbbngaaDoorChange
import Derived.Test.YtohbmkppfbbngaaDoorDraw
namespace Go.Proofs.YtohbmkppfbbngaaDoor
open Go.RowKit

/-- The numbers from 1 on. -/
def marks (n : Nat) : List Int := (List.range n).map fun (i : Nat) => 1 + (i : Int)
theorem marks_len (n : Nat) : (marks n).length = n := by simp [marks]
theorem marks_at {n k : Nat} (h : k < n) : (marks n)[k]? = some (1 + (k : Int)) := by
  unfold marks
  rw [List.getElem?_map, List.getElem?_range h]
  rfl
theorem marks_set {n k : Nat} (xs : List Int) (hx : xs.length = n) (h : k < n) : (ints ((marks n).take k ++ xs.drop k)).set k (.int .i64 (1 + (k : Int))) = ints ((marks n).take (k + 1) ++ xs.drop (k + 1)) := by
  have hm := marks_len n
  unfold ints
  rw [← List.map_set]
  congr 1
  rw [List.set_append_right _ _ (by rw [List.length_take]; omega), List.length_take, hm, Nat.min_eq_left (by omega), Nat.sub_self,
    List.drop_eq_getElem_cons (by omega), List.set_cons_zero, List.take_add_one, marks_at h, List.append_assoc]
  rfl

set_option maxRecDepth 100000 in
set_option maxHeartbeats 1000000 in
theorem markIntS_any (A : Option Addr) (n c base : Nat) (xs : List Int) (w : World) (ho : w.ownsRow base 3 1 (.slice A n c) n (ints xs)) (hn : n ≤ 1048577) :
    Calls Tryd.prog 44 #[.slice A n c, .int .i64 1] w fun e w' => e = .returned (.int .i64 (1 + (n : Int))) ∧ w'.ownsRow base 3 1 (.slice A n c) n (ints (marks n)) ∧ w.grownBy w' (Value.slice A n c).ownBlock := by
  have hxs : xs.length = n := by have := ho.1; rw [ints_len] at this; omega
  by_cases h0 : n = 0
  · subst h0
    have hx0 : xs = [] := List.eq_nil_of_length_eq_zero hxs
    subst hx0
    have HO := Lib.hid ho
    clear ho hxs
    go_enter Tryd.func44, Tryd.ntmps44
    go_wp2
    go_loop [1, 5] (fun k i => i = .int .i64 0 ∧ k = .int .i64 1) (fun _ _ => 0)
    case atStart => exact ⟨rfl, rfl⟩
    case round =>
      obtain ⟨rfl, rfl⟩ := hrel
      go_wp2
      go_ret
      exact ⟨rfl, HO.out, World.grownBy.refl w _⟩
  · obtain ⟨g, cap, hv, hb, hg⟩ := ho.form (by omega)
    simp only [Value.slice.injEq, true_and] at hv
    obtain ⟨rfl, rfl⟩ := hv
    have HX := Lib.hid hxs
    have HO := Lib.hid ho
    clear ho hxs
    go_enter Tryd.func44, Tryd.ntmps44
    go_wp2
    go_loopw [1, 5] (fun v i wr => ∃ k : Nat, k ≤ n ∧ i = .int .i64 k ∧ v = .int .i64 (1 + (k : Int)) ∧ Hid (wr.ownsRow base 3 1 (.slice (some ⟨g, 0, none⟩) n c) n (ints ((marks n).take k ++ xs.drop k))) ∧ w.grownBy wr (some g)) (fun _ i _ => n - (intOf i).toNat)
    case atStart => exact ⟨0, Nat.zero_le _, rfl, rfl, by simpa using HO, World.grownBy.refl w _⟩
    case round =>
      obtain ⟨k, hk, rfl, rfl, HR, hgr⟩ := hrel
      by_cases hlt : k < n
      · have hc : ∃ u, wr.cell? ⟨g, k, none⟩ = some u := by
          rw [HR.out.cellAt k (by omega)]
          exact ⟨_, List.getElem?_eq_getElem (by rw [ints_len, List.length_append, List.length_take, List.length_drop, marks_len]; have := HX.out; omega)⟩
        obtain ⟨u, hcell⟩ := hc
        have hf0 : wr.frozen? ⟨g, k, none⟩ = false := HR.out.frozenAt k
        have hst := HR.out.stored k (.int .i64 (1 + (k : Int)))
        have h1 := hst.1
        rw [marks_set xs HX.out hlt] at h1
        have HS1 := Lib.hid h1
        have HS2 := Lib.hid (grown_more hgr hst.2)
        clear hst h1 hgr
        go_wp2
        go_roundw
        case rel => exact ⟨k + 1, by omega, by go_num, by go_num, HS1, HS2.out⟩
        case measure => simp [intOf]; omega
      · have hkn : k = n := by omega
        subst hkn
        have HG := Lib.hid hgr
        clear hgr
        go_wp2
        go_ret
        have h1 := HR.out
        rw [List.take_of_length_le (by rw [marks_len]; exact Nat.le_refl _), List.drop_of_length_le (by have := HX.out; omega), List.append_nil] at h1
        exact ⟨rfl, h1, HG.out⟩

set_option maxRecDepth 100000 in
set_option maxHeartbeats 1000000 in
theorem heldIntS_any (A : Option Addr) (n c B : Nat) (w : World) (hr : Reads w B 1 A n (ints (marks n))) (hn : n ≤ 1048577) :
    Calls Tryd.prog 45 #[.slice A n c, .int .i64 1] w fun e w' => e = .returned (.int .i64 (1 + (n : Int))) ∧ w = w' := by
  have HR := Lib.hid hr
  clear hr
  go_enter Tryd.func45, Tryd.ntmps45
  go_wp2
  go_loop [1, 5] (fun v i => ∃ k : Nat, k ≤ n ∧ i = .int .i64 k ∧ v = .int .i64 (1 + (k : Int))) (fun _ i => n - (intOf i).toNat)
  case atStart => exact ⟨0, Nat.zero_le _, rfl, rfl⟩
  case round =>
    obtain ⟨k, hk, rfl, rfl⟩ := hrel
    by_cases hlt : k < n
    · obtain ⟨ad, u, rfl, _, hx, hcell⟩ := HR.out.at_ hlt
      have hu : u = .int .i64 (1 + (k : Int)) := by
        unfold ints at hx
        rw [List.getElem?_map, marks_at hlt] at hx
        exact (Option.some.inj hx).symm
      subst hu
      have tb : ((1 + (k : Int)) != (1 + (k : Int))) = false := by simp
      clear hx
      go_wp2
      go_round
      case rel => exact ⟨k + 1, by omega, by go_num, by go_num⟩
      case measure => simp [intOf]; omega
    · have hkn : k = n := by omega
      subst hkn
      go_wp2
      go_ret
      exact ⟨rfl, rfl⟩

set_option maxRecDepth 100000 in
set_option maxHeartbeats 1000000 in
theorem markLock_any (h f : Int) (A : Option Addr) (n c base : Nat) (xs : List Int) (w : World) (ho : w.ownsRow base 3 1 (.slice A n c) n (ints xs)) (hn : n ≤ 1048577) :
    Calls Tryd.prog 22 #[.agg #[.int .i64 h, .int .i64 f, .slice A n c], .int .i64 1] w fun e w' => e = .returned (.int .i64 (1 + (n : Int))) ∧ w'.ownsRow base 3 1 (.slice A n c) n (ints (marks n)) ∧ w.grownBy w' (Value.slice A n c).ownBlock := by
  have HO := Lib.hid ho
  clear ho
  go_enter Tryd.func22, Tryd.ntmps22
  go_wp2_with (fail)
  refine (markIntS_any A n c base xs _ (by exact World.ownsRow.alloc HO.out _) hn).mono ?_
  rintro e w1 ⟨rfl, hown1, hg1⟩
  have H1 := Lib.hid hown1
  have G1 := Lib.hid (alloc_grown hg1)
  clear hown1 hg1
  go_wp2
  go_ret
  exact ⟨rfl, H1.out, G1.out⟩

set_option maxRecDepth 100000 in
set_option maxHeartbeats 1000000 in
theorem heldLock_any (h f : Int) (A : Option Addr) (n c B : Nat) (w : World) (hr : Reads w B 1 A n (ints (marks n))) (hB : B ≤ w.heap.size) (hn : n ≤ 1048577) :
    Calls Tryd.prog 23 #[.agg #[.int .i64 h, .int .i64 f, .slice A n c], .int .i64 1] w fun e w' => e = .returned (.int .i64 (1 + (n : Int))) ∧ Below w.heap.size w w' := by
  have HR := Lib.hid hr
  clear hr
  go_enter Tryd.func23, Tryd.ntmps23
  go_wp2_with (fail)
  refine (heldIntS_any A n c B _ (by exact HR.out.alloc hB _) hn).mono ?_
  rintro e w1 ⟨rfl, rfl⟩
  go_wp2
  go_ret
  exact ⟨rfl, (Below.refl _ _).alloc (Nat.le_refl _) _⟩
end Go.Proofs.YtohbmkppfbbngaaDoor
