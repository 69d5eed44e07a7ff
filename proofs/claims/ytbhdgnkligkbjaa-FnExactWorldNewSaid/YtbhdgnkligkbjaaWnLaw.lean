/-
  What is proved: laws.FnExactWorldNew returns true, and nothing that was there changes. No condition.
-/
import Derived.Test.YtbhdgnkligkbjaaWnMark
namespace Go.Proofs.Ytbhdgnkligkbjaa
open Go.RowKit

set_option maxRecDepth 100000 in
set_option maxHeartbeats 2000000 in
theorem exactWorldNew_any (w : World) : Calls Try.prog 3 #[] w fun e w' => e = .returned (.bool true) ∧ Below w.heap.size w w' := by
  go_enter Try.func3, Try.ntmps3
  go_wp2_with (fail)
  refine (specWorldNew_any _).mono ?_
  rintro e w1 ⟨A0, A2, A3, A4, c0, c2, c3, c4, g, c, rfl, hr1, hb1⟩
  have R1 := Lib.hid hr1
  have B1 := Lib.hid hb1
  have z1 := hb1.size
  clear hr1 hb1
  go_wp2_with (fail)
  refine (implWorldNew_any _).mono ?_
  rintro e w2 ⟨D0, D2, D3, D4, d0, d2, d3, d4, g2, c2', rfl, hr2, hb2⟩
  have R2 := Lib.hid (hr2.mono (show w1.heap.size + 1 ≤ _ by simp))
  have K2 := Lib.hid ((Blk.new w1 28 #[.slice A0 0 c0, .slice (some ⟨g, 0, none⟩) 5 c, .slice A2 0 c2, .slice A3 0 c3, .slice A4 0 c4]).below hb2 (by simp))
  have R12 := Lib.hid (R1.out.below (((Below.refl _ _).alloc (Nat.le_refl _) (.cells #[.slice A0 0 c0, .slice (some ⟨g, 0, none⟩) 5 c, .slice A2 0 c2, .slice A3 0 c3, .slice A4 0 c4] 28)).trans (hb2.mono (by simp))))
  have B2 : Hid (Below w.heap.size w w2) := Lib.hid ((B1.out.alloc z1 _).trans (hb2.mono (by simp; omega)))
  have x2 := K2.out.cell
  have l2 := K2.out.lt
  have hg12 := R1.out.lt
  clear hr2 hb2
  go_wp2_with (fail)
  refine (eqWorld_any D0 D2 D3 D4 A0 A2 A3 A4 d0 d2 d3 d4 c0 c2 c3 c4 _ g2 c2' _ g c _ _ _ (by exact R2.out.below ((Below.refl _ _).alloc (Nat.le_refl _) _)) (by exact R12.out.below ((Below.refl _ _).alloc (Nat.le_refl _) _))).mono ?_
  rintro e w3 ⟨rfl, hb3⟩
  have hb3' : Below w2.heap.size w2 w3 := ((Below.refl _ _).alloc (Nat.le_refl _) _).trans (hb3.mono (by simp))
  have R3 := Lib.hid (R2.out.below hb3')
  have R13 := Lib.hid (R12.out.below hb3')
  have K3 := Lib.hid (K2.out.below hb3' l2)
  have L3 := Lib.hid ((Blk.new w2 28 #[.slice D0 0 d0, .slice (some ⟨g2, 0, none⟩) 5 c2', .slice D2 0 d2, .slice D3 0 d3, .slice D4 0 d4]).below hb3 (by simp))
  have B3 : Hid (Below w.heap.size w w3) := Lib.hid (B2.out.trans (hb3'.mono (by omega)))
  have x3 := K3.out.cell
  have y3 := L3.out.cell
  have l3 := L3.out.lt
  have hg2 := R2.out.lt
  clear hb3 hb3' x2
  go_wp2_with (fail)
  refine (markWorld_any D0 D2 D3 D4 d0 d2 d3 d4 _ g2 c2' _ _ _ (by exact R3.out)).mono ?_
  rintro e w4 ⟨rfl, hr4, hgr4⟩
  have R4 := Lib.hid hr4
  have R14 := Lib.hid (R13.out.kept hgr4 (by simp; omega))
  have K4 := Lib.hid (K3.out.grown hgr4 (by simp; omega))
  have L4 := Lib.hid (L3.out.grown hgr4 (by simp; omega))
  have B4 : Hid (Below w.heap.size w w4) := Lib.hid (B3.out.grown hgr4 B3.out.size (fun k hk => by injection hk with hk; omega))
  have x4 := K4.out.cell
  have y4 := L4.out.cell
  have l4 := L4.out.lt
  clear hr4 hgr4 x3 y3
  go_wp2_with (fail)
  refine (heldWorld_any D0 D2 D3 D4 d0 d2 d3 d4 _ g2 c2' _ _ _ (by exact R4.out)).mono ?_
  rintro e w5 ⟨rfl, hb5⟩
  have R5 := Lib.hid (R4.out.below hb5)
  have R15 := Lib.hid (R14.out.below hb5)
  have K5 := Lib.hid (K4.out.below hb5 K4.out.lt)
  have L5 := Lib.hid (L4.out.below hb5 l4)
  have B5 : Hid (Below w.heap.size w w5) := Lib.hid (B4.out.trans (hb5.mono B4.out.size))
  have x5 := K5.out.cell
  have y5 := L5.out.cell
  have l5 := L5.out.lt
  clear hb5 x4 y4
  go_wp2_with (fail)
  refine (implWorldNew_any _).mono ?_
  rintro e w6 ⟨E0, E2, E3, E4, e0, e2, e3, e4, g6, c6, rfl, hr6, hb6⟩
  have R6 := Lib.hid (R5.out.below hb6)
  have R16 := Lib.hid (R15.out.below hb6)
  have N6 := Lib.hid hr6
  have K6 := Lib.hid (K5.out.below hb6 K5.out.lt)
  have L6 := Lib.hid (L5.out.below hb6 l5)
  have B6 : Hid (Below w.heap.size w w6) := Lib.hid (B5.out.trans (hb6.mono B5.out.size))
  have x6 := K6.out.cell
  have y6 := L6.out.cell
  have l6 := L6.out.lt
  have k6 := K6.out.lt
  clear hr6 hb6 x5 y5
  go_wp2_with (fail)
  refine (eqWorld_any E0 E2 E3 E4 A0 A2 A3 A4 e0 e2 e3 e4 c0 c2 c3 c4 _ g6 c6 _ g c _ _ _ (by exact N6.out.below ((Below.refl _ _).alloc (Nat.le_refl _) _)) (by exact R16.out.below ((Below.refl _ _).alloc (Nat.le_refl _) _))).mono ?_
  rintro e w7 ⟨rfl, hb7⟩
  have hb7' : Below w6.heap.size w6 w7 := ((Below.refl _ _).alloc (Nat.le_refl _) _).trans (hb7.mono (by simp))
  have R7 := Lib.hid (R6.out.below hb7')
  have L7 := Lib.hid (L6.out.below hb7' l6)
  have B7 : Hid (Below w.heap.size w w7) := Lib.hid (B6.out.trans (hb7'.mono B6.out.size))
  have y7 := L7.out.cell
  clear hb7 hb7' x6 y6
  go_wp2_with (fail)
  refine (heldWorld_any D0 D2 D3 D4 d0 d2 d3 d4 _ g2 c2' _ _ _ (by exact R7.out)).mono ?_
  rintro e w8 ⟨rfl, hb8⟩
  have B8 : Hid (Below w.heap.size w w8) := Lib.hid (B7.out.trans (hb8.mono B7.out.size))
  clear hb8
  go_wp2_with (fail)
  go_ret
  exact ⟨rfl, B8.out⟩
end Go.Proofs.Ytbhdgnkligkbjaa
