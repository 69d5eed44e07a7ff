/-
  What is proved: laws.FnWorldNew over the second program: it returns true, or escapes. No condition.
-/
import Derived.Test.YtjklkppncmhehaaWn28
set_option linter.unusedVariables false
set_option linter.unusedSimpArgs false
namespace Go.Proofs.Ytjklkppncmhehaa
open Go Go.RowKit

set_option maxRecDepth 100000 in
set_option maxHeartbeats 8000000 in
theorem worldNew_law (A : Option Addr) (n c : Nat) (w : World) (hn : n ≤ c) (hc : c ≤ maxLen) :
    Calls Tw.prog 3 #[.slice A n c] w Sr.LawR := by
  go_enter Tw.func3, Try.ntmps3
  go_wp2_with (fail)
  · go_ret
    exact Or.inl rfl
  · refine (implWorldNew_any _).mono ?_
    rintro e w1 ⟨A0, A2, A3, A4, g, c1, rfl, hr1, hb1⟩
    have R1 : Hid (G5 w1 g c1) := Lib.hid (hr1.mono (Nat.zero_le _))
    clear hr1 hb1
    go_wp2_with (fail)
    have hWb : Below w1.heap.size w1 (w1.alloc (.cells #[.slice A0 0 0, .slice (some ⟨g, 0, none⟩) 5 c1, .slice A2 0 0, .slice A3 0 0, .slice A4 0 0] 29)) := (Below.refl _ _).alloc (Nat.le_refl _) _
    have R0 : Hid (G5 (w1.alloc (.cells #[.slice A0 0 0, .slice (some ⟨g, 0, none⟩) 5 c1, .slice A2 0 0, .slice A3 0 0, .slice A4 0 0] 29)) g c1) := Lib.hid (R1.out.below hWb)
    have K0 := Lib.hid (Blk.new w1 29 #[.slice A0 0 0, .slice (some ⟨g, 0, none⟩) 5 c1, .slice A2 0 0, .slice A3 0 0, .slice A4 0 0])
    clear hWb
    generalize (w1.alloc (.cells #[.slice A0 0 0, .slice (some ⟨g, 0, none⟩) 5 c1, .slice A2 0 0, .slice A3 0 0, .slice A4 0 0] 29)) = W at R0 K0 ⊢
    generalize w1.heap.size = b at R0 K0 ⊢
    have x0 := K0.out.cell
    go_region_with (first
        | (go_at_call 7
           refine (specWorldNew_any _).mono ?_
           rintro e' w2 ⟨D0, D2, D3, D4, g2, c2, rfl, hr2, hb2⟩
           have hbb : Below W.heap.size W w2 := by exact (Below.refl _ _).drew.trans hb2
           have K2 := Lib.hid (K0.out.below hbb K0.out.lt)
           have R2 := Lib.hid (R0.out.below hbb)
           have S2 : Hid (G5 w2 g2 c2) := Lib.hid (hr2.mono (Nat.zero_le _))
           have x2 := K2.out.cell
           clear hr2 hb2 hbb x0)
        | (go_at_call 6
           refine (sameWorld_nil _ _ _ _ _ _ _ _ g c1 g2 c2 _ R2.out S2.out).mono ?_
           rintro e' w3 ⟨rfl, hb3⟩
           have K3 := Lib.hid (blk_cell K2.out hb3)
           have R3 := Lib.hid (R2.out.below hb3)
           have x3 := K3.out.cell
           clear hb3 x2)
        | (go_at_call 8
           refine (worldValid_nil _ _ _ _ g c1 _ R3.out).mono ?_
           rintro e' w4 (⟨rfl, hb4⟩ | ⟨us, rfl, hok⟩)
           rotate_left
           exact ⟨rfl, Or.inr ⟨_, rfl, hok⟩⟩
           have K4 := Lib.hid (blk_cell K3.out hb4)
           have x4 := K4.out.cell
           clear hb4 x3))
    all_goals
      simp only [List.getElem_toArray, List.getElem_cons_succ, List.getElem_cons_zero, Act.put, List.setIfInBounds_toArray, List.set_cons_succ, List.set_cons_zero]
      go_wp2
      go_ret
      exact Or.inl rfl
end Go.Proofs.Ytjklkppncmhehaa
