/-
  What is proved: the contract of impl.clone at int: it returns a copy of the list in memory of its own. Condition: the list is no longer than 2^20.
-/
import Derived.Test.YtohbmkppfbbngaaDoorPlace
namespace Go.Proofs.YtohbmkppfbbngaaDoor
open Go.RowKit

set_option maxRecDepth 100000 in
set_option maxHeartbeats 1000000 in
theorem clone_any (A : Option Addr) (n c B : Nat) (zs : List Int) (w : World) (hr : Reads w B 1 A n (ints zs)) (hB : B ≤ w.heap.size) (hn : n ≤ 1048576) :
    Calls Tryd.prog 38 #[.slice A n c] w fun e w' => RetRow w.heap.size zs e w' ∧ Below w.heap.size w w' := by
  obtain ⟨i0, hi0, hz0, hz1, hz2⟩ := info_parts int_info
  have HR := Lib.hid hr
  clear hr
  go_enter Tryd.func38, Tryd.ntmps38
  go_wp2_with (first
    | (at_make
       refine wpList_make_own _ rfl _ (.tmp 4) _ rfl w.heap.size 3 i0 (.int .i64 0) 1 Tryd.underlying23 hi0 hz0 (by assumption) .i64 .i64 n n rfl rfl rfl (by rw [hz2]; omega) (by unfold maxLen; omega) (Nat.le_refl _) ?_
       intro w1 hown1 hg1
       have HO1 := Lib.hid hown1
       have HB1 : Hid (Below w.heap.size w w1) := Lib.hid ((Below.refl _ _).grown hg1 (Nat.le_refl _) (by simp))
       have HR1 := Lib.hid (HR.out.grown hg1 hB (by simp))
       have hs1 := hg1.size
       clear hown1 hg1)
    | (at_builtin
       refine wpList_append_any _ rfl (.tmp 5) (.tmp 6) _ rfl w.heap.size 3 i0 _ 1 8 Tryd.underlying23 hi0 hz0 (by assumption) hz2 rfl (by omega) (.slice (some ⟨w.heap.size, 0, none⟩) 0 n) 0 [] rfl
         HO1.out B A n c (ints zs) rfl HR1.out ints_one (by unfold maxLen; omega) (by omega) (by omega) ?_
       intro v2 w2 hown2 hg2 hat2
       rw [Nat.zero_add, List.nil_append] at hown2
       obtain ⟨A2, c2, rfl⟩ := own_slice hown2
       have HO2 := Lib.hid hown2
       have HB2 : Hid (Below w.heap.size w w2) := Lib.hid (HB1.out.grown hg2 (by omega) (by simp [Value.ownBlock]))
       clear hown2 hg2 hat2))
  go_ret
  exact ⟨⟨A2, n, c2, rfl, HO2.out⟩, HB2.out⟩
end Go.Proofs.YtohbmkppfbbngaaDoor
