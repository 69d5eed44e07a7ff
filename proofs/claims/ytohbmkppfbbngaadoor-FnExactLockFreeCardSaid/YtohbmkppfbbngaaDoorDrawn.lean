/-
  What is proved: the contracts of spec.DrawLockValid, DrawLockAsk, DrawLockPlace and DrawLockFree: they return some lock with small numbers and a short line of its own, and some small number; nothing that was there has changed. Condition: the code reads as bytes.
-/
import Derived.Test.YtohbmkppfbbngaaDoorDraw
namespace Go.Proofs.YtohbmkppfbbngaaDoor
open Go.RowKit

/-- A lock that was drawn: numbers and line in bounds. -/
def DB (h f : Int) (zs : List Int) : Prop := -2 ≤ h ∧ h ≤ 3 ∧ -1 ≤ f ∧ f ≤ 100 ∧ zs.length ≤ 6
def Drawn (w : World) (e : Ending) (w' : World) : Prop :=
  ∃ h f zs A c, e = .returned (.agg #[.int .i64 h, .int .i64 f, .slice A zs.length c]) ∧ w'.ownsRow w.heap.size 3 1 (.slice A zs.length c) zs.length (ints zs) ∧ Below w.heap.size w w' ∧ DB h f zs
def Drawn2 (w : World) (e : Ending) (w' : World) : Prop :=
  ∃ h f zs A c who, e = .returned (.tuple #[.agg #[.int .i64 h, .int .i64 f, .slice A zs.length c], .int .i64 who]) ∧ w'.ownsRow w.heap.size 3 1 (.slice A zs.length c) zs.length (ints zs) ∧ Below w.heap.size w w' ∧ DB h f zs ∧ -20 ≤ who ∧ who ≤ 20

theorem below_grown {w w1 w2 : World} {g : Nat} (h : Below w.heap.size w w1) (k : w1.grownBy w2 (some g)) (hg : w.heap.size ≤ g) : Below w.heap.size w w2 :=
  h.grown k h.size (fun b hb => by injection hb with hb; omega)

set_option maxRecDepth 100000 in
set_option maxHeartbeats 1000000 in
theorem drawValid_any (A : Option Addr) (n c B : Nat) (bs : List Int) (w : World) (hr : Reads w B 1 A n (bys bs)) (hB : B ≤ w.heap.size) (hb : Bytes bs) (hnc : n ≤ c) (hc : c ≤ maxLen) :
    Calls Tryd.prog 13 #[.slice A n c] w (Drawn w) := by
  have HR := Lib.hid hr
  have HB := Lib.hid hb
  clear hr hb
  go_enter Tryd.func13, Tryd.ntmps13
  go_wp2_with (fail)
  refine (l6Open_any A n c B bs _ (HR.out.alloc hB _) (by simp; omega) HB.out hnc hc).mono ?_
  rintro e w1 ⟨rfl, hrd1, hb1, hs1⟩
  have HX1 := Lib.hid ((Blk.new w 25 #[.int .i64 0, .int .i64 0, .slice none 0 0]).below hb1 (by simp))
  have HB1 : Hid (Below w.heap.size w w1) := Lib.hid (((Below.refl _ _).alloc (Nat.le_refl _) _).trans (hb1.mono (by simp)))
  have HR1 : Hid (Rd w1 (w.heap.size + 1) (w.heap.size + 1) 0) := Lib.hid (by simpa using hrd1)
  have hz1 : w.heap.size + 1 < w1.heap.size := by simp at hs1; omega
  clear hrd1 hb1 hs1
  go_wp2_with (fail)
  refine (l92Lock_any (w.heap.size + 1) (w.heap.size + 1) 0 w1 HR1.out (by omega)).mono ?_
  rintro e w2 ⟨h, f, zs, A2, c2, rfl, hown2, hrd2, hg2, h1, h2, h3, h4, h5⟩
  have HX2 := Lib.hid (HX1.out.grown hg2 (by simp))
  have HB2 : Hid (Below w.heap.size w w2) := Lib.hid (below_grown HB1.out hg2 (by omega))
  have HO2 := Lib.hid (own_mono hown2 (show w.heap.size ≤ _ by omega))
  have hne2 : (Value.slice A2 zs.length c2).ownBlock ≠ some w.heap.size := own_blk_ne hown2 HX2.out (by decide)
  have x2 := HX2.out.cell
  have y2 := HX2.out.frozen
  clear hown2 hrd2 hg2
  go_wp2_with (fail)
  refine bodyPost_ret (v := .agg #[.int .i64 h, .int .i64 f, .slice A2 zs.length c2]) (by simp [results, Tryd.results13, go_sem, x2]) rfl ?_
  refine ⟨h, f, zs, A2, c2, rfl, ownsRow_setCell_other (ownsRow_setCell_other (ownsRow_setCell_other HO2.out hne2 _) hne2 _) hne2 _, ?_, ⟨h1, h2, h3, h4, h5⟩⟩
  exact ((HB2.out.setCell (by simp) _).setCell (by simp) _).setCell (by simp) _

theorem who_bd {a b c : Int} (a0 : 0 ≤ a) (a1 : a < 4) (b0 : 0 ≤ b) (b1 : b < 20) (c0 : 0 ≤ c) (c1 : c < 3) :
    -20 ≤ IntKind.i64.wrap (a + IntKind.i64.wrap (IntKind.i64.wrap (IntKind.i64.wrap (b.tdiv 19) * IntKind.i64.wrap (c - 1)) * 4)) ∧ IntKind.i64.wrap (a + IntKind.i64.wrap (IntKind.i64.wrap (IntKind.i64.wrap (b.tdiv 19) * IntKind.i64.wrap (c - 1)) * 4)) ≤ 20 := by
  rw [Int.tdiv_eq_ediv_of_nonneg b0, IntWalk.i64_in (b / 19) (by omega), IntWalk.i64_in (c - 1) (by omega)]
  have hq : b / 19 = 0 ∨ b / 19 = 1 := by omega
  rcases hq with hq | hq <;> rw [hq]
  · rw [Int.zero_mul, IntWalk.i64_in 0 (by omega), Int.zero_mul, IntWalk.i64_in 0 (by omega), IntWalk.i64_in _ (by omega)]
    omega
  · rw [Int.one_mul, IntWalk.i64_in (c - 1) (by omega), IntWalk.i64_in ((c - 1) * 4) (by omega), IntWalk.i64_in _ (by omega)]
    omega

/-- The state of DrawLockAsk behind the lock's draw: g is the reader, b5 holds the lock. -/
def DSt (w : World) (g b5 : Nat) (h f : Int) (zs : List Int) (A : Option Addr) (c P : Nat) (wr : World) : Prop :=
  Blk wr b5 25 #[.int .i64 h, .int .i64 f, .slice A zs.length c] ∧ Blk wr w.heap.size 25 #[.int .i64 0, .int .i64 0, .slice none 0 0] ∧ Below w.heap.size w wr ∧
    wr.ownsRow w.heap.size 3 1 (.slice A zs.length c) zs.length (ints zs) ∧ Rd wr g g P ∧ w.heap.size < g ∧ g ≠ b5 ∧ (Value.slice A zs.length c).ownBlock ≠ some g
theorem DSt.drew {w : World} {g b5 : Nat} {h f : Int} {zs : List Int} {A : Option Addr} {c P : Nat} {wr : World} (s : DSt w g b5 h f zs A c P wr) : DSt w g b5 h f zs A c P wr.drew :=
  ⟨s.1, s.2.1, s.2.2.1.drew, s.2.2.2.1, s.2.2.2.2.1, s.2.2.2.2.2⟩
theorem DSt.pick {w : World} {g b5 : Nat} {h f : Int} {zs : List Int} {A : Option Addr} {c P : Nat} {wr w' : World} (s : DSt w g b5 h f zs A c P wr) (hrd : Rd w' g g (P + 1)) (hg : wr.grownBy w' (some g)) : DSt w g b5 h f zs A c (P + 1) w' := by
  obtain ⟨h1, h2, h3, h4, h5, h6, h7, h8⟩ := s
  exact ⟨h1.grown hg (by simp; omega), h2.grown hg (by simp; omega), below_grown h3 hg (by omega), h4.kept hg (.inr h8), hrd, h6, h7, h8⟩

set_option maxRecDepth 100000 in
set_option maxHeartbeats 2000000 in
theorem drawAskLock_any (A : Option Addr) (n c B : Nat) (bs : List Int) (w : World) (hr : Reads w B 1 A n (bys bs)) (hB : B ≤ w.heap.size) (hb : Bytes bs) (hnc : n ≤ c) (hc : c ≤ maxLen) :
    Calls Tryd.prog 24 #[.slice A n c] w (Drawn2 w) := by
  have HR := Lib.hid hr
  have HB := Lib.hid hb
  clear hr hb
  go_enter Tryd.func24, Tryd.ntmps24
  go_wp2_with (fail)
  refine (l6Open_any A n c B bs _ (HR.out.alloc hB _) (by simp; omega) HB.out hnc hc).mono ?_
  rintro e w1 ⟨rfl, hrd1, hb1, hs1⟩
  have HX1 := Lib.hid ((Blk.new w 25 #[.int .i64 0, .int .i64 0, .slice none 0 0]).below hb1 (by simp))
  have HB1 : Hid (Below w.heap.size w w1) := Lib.hid (((Below.refl _ _).alloc (Nat.le_refl _) _).trans (hb1.mono (by simp)))
  have HR1 : Hid (Rd w1 (w.heap.size + 1) (w.heap.size + 1) 0) := Lib.hid (by simpa using hrd1)
  have hz1 : w.heap.size + 1 < w1.heap.size := by simp at hs1; omega
  clear hrd1 hb1 hs1
  go_wp2_with (fail)
  refine (l92Lock_any (w.heap.size + 1) (w.heap.size + 1) 0 w1 HR1.out (by omega)).mono ?_
  rintro e w2 ⟨h, f, zs, A2, c2, rfl, hown2, hrd2, hg2, h1, h2, h3, h4, h5⟩
  have HX2 := Lib.hid (HX1.out.grown hg2 (by simp))
  have HB2 : Hid (Below w.heap.size w w2) := Lib.hid (below_grown HB1.out hg2 (by omega))
  have HO2 := Lib.hid (own_mono hown2 (show w.heap.size ≤ _ by omega))
  have HR2 := Lib.hid hrd2
  have hz2 : w.heap.size + 1 < w2.heap.size := by have := hg2.size; omega
  clear hown2 hrd2 hg2
  go_wp2_with (fail)
  have S3 : Hid (DSt w (w.heap.size + 1) w2.heap.size h f zs A2 c2 40 (w2.alloc (.cells #[.int .i64 h, .int .i64 f, .slice A2 zs.length c2] 25))) :=
    Lib.hid ⟨Blk.new w2 _ _, HX2.out.alloc _, HB2.out.alloc (by omega) _, World.ownsRow.alloc HO2.out _, HR2.out.alloc _, by omega, by omega, fun e => by
      obtain ⟨_, _, _, _, _, hkr, _⟩ := HR2.out
      exact own_blk_ne HO2.out hkr (by decide) e⟩
  clear HX2 HB2 HO2 HR2 HX1 HB1 HR1 HR HB
  generalize w2.alloc (.cells #[.int .i64 h, .int .i64 f, .slice A2 zs.length c2] 25) = w3 at S3 ⊢
  have k3 := S3.out.1.cell
  go_region_with (first
    | (go_at_call_of 46 (Value.int IntKind.i64 4)
       refine (pick_any (w.heap.size + 1) (w.heap.size + 1) 40 4 _ (by exact S3.out.2.2.2.2.1) (by omega) (by omega) (by omega)).mono ?_
       rintro e w4 ⟨m4, rfl, lo4, hi4, hrd, hgb, hsb⟩
       have S4 : Hid (DSt w (w.heap.size + 1) w2.heap.size h f zs A2 c2 (40 + 1) w4) := Lib.hid (S3.out.drew.pick hrd hgb)
       have k4 := S4.out.1.cell
       have x4 := S4.out.2.1.cell
       have y4 := S4.out.2.1.frozen
       clear hrd hgb hsb)
    | (go_at_call_of 46 (Value.int IntKind.i64 20)
       refine (pick_any (w.heap.size + 1) (w.heap.size + 1) (40 + 1) 20 _ (by exact S4.out.2.2.2.2.1) (by omega) (by omega) (by omega)).mono ?_
       rintro e w5 ⟨m5, rfl, lo5, hi5, hrd, hgb, hsb⟩
       have S5 : Hid (DSt w (w.heap.size + 1) w2.heap.size h f zs A2 c2 ((40 + 1) + 1) w5) := Lib.hid (S4.out.pick hrd hgb)
       have k5 := S5.out.1.cell
       have x5 := S5.out.2.1.cell
       have y5 := S5.out.2.1.frozen
       clear hrd hgb hsb)
    | (go_at_call_of 46 (Value.int IntKind.i64 3)
       refine (pick_any (w.heap.size + 1) (w.heap.size + 1) (40 + 1 + 1) 3 _ (by exact S5.out.2.2.2.2.1) (by omega) (by omega) (by omega)).mono ?_
       rintro e w6 ⟨m6, rfl, lo6, hi6, hrd, hgb, hsb⟩
       have S6 : Hid (DSt w (w.heap.size + 1) w2.heap.size h f zs A2 c2 ((40 + 1 + 1) + 1) w6) := Lib.hid (S5.out.pick hrd hgb)
       have k6 := S6.out.1.cell
       have x6 := S6.out.2.1.cell
       have y6 := S6.out.2.1.frozen
       clear hrd hgb hsb))
  all_goals
    have hw := who_bd lo4 hi4 lo5 hi5 lo6 hi6
    go_wp2
    refine bodyPost_ret (v := .tuple #[.agg #[.int .i64 h, .int .i64 f, .slice A2 zs.length c2], .int .i64 (IntKind.i64.wrap (m4 + IntKind.i64.wrap (IntKind.i64.wrap (IntKind.i64.wrap (m5.tdiv 19) * IntKind.i64.wrap (m6 - 1)) * 4)))]) (by simp [results, Tryd.results24, go_sem, x6]) rfl ?_
    obtain ⟨_, hX6, hB6, hO6, _⟩ := S6.out
    have hne6 : (Value.slice A2 zs.length c2).ownBlock ≠ some w.heap.size := own_blk_ne hO6 hX6 (by decide)
    refine ⟨h, f, zs, A2, c2, _, rfl, ownsRow_setCell_other (ownsRow_setCell_other (ownsRow_setCell_other hO6 hne6 _) hne6 _) hne6 _, ?_, ⟨h1, h2, h3, h4, h5⟩, hw.1, hw.2⟩
    exact ((hB6.setCell (by simp) _).setCell (by simp) _).setCell (by simp) _


set_option maxRecDepth 100000 in
set_option maxHeartbeats 1000000 in
theorem drawFreeLock_any (A : Option Addr) (n c B : Nat) (bs : List Int) (w : World) (hr : Reads w B 1 A n (bys bs)) (hB : B ≤ w.heap.size) (hb : Bytes bs) (hnc : n ≤ c) (hc : c ≤ maxLen) :
    Calls Tryd.prog 29 #[.slice A n c] w (Drawn2 w) := by
  have HR := Lib.hid hr
  have HB := Lib.hid hb
  clear hr hb
  go_enter Tryd.func29, Tryd.ntmps29
  go_wp2_with (fail)
  refine (drawAskLock_any A n c B bs _ (HR.out.alloc hB _) (by simp; omega) HB.out hnc hc).mono ?_
  rintro e w1 ⟨h, f, zs, A1, c1, who, rfl, hown1, hb1, hdb, hw0, hw1⟩
  have HX1 := Lib.hid ((Blk.new w 25 #[.int .i64 0, .int .i64 0, .slice none 0 0]).below hb1 (by simp))
  have HB1 : Hid (Below w.heap.size w w1) := Lib.hid (((Below.refl _ _).alloc (Nat.le_refl _) _).trans (hb1.mono (by simp)))
  have HO1 := Lib.hid (own_mono hown1 (show w.heap.size ≤ _ by simp))
  have hne : (Value.slice A1 zs.length c1).ownBlock ≠ some w.heap.size := own_blk_ne hown1 HX1.out (by decide)
  have HD := Lib.hid hdb
  have x1 := HX1.out.cell
  have y1 := HX1.out.frozen
  clear hown1 hb1 hdb
  go_wp2_with (fail)
  refine bodyPost_ret (v := .tuple #[.agg #[.int .i64 h, .int .i64 f, .slice A1 zs.length c1], .int .i64 who]) (by simp [results, Tryd.results29, go_sem, x1]) rfl ?_
  refine ⟨h, f, zs, A1, c1, who, rfl, ownsRow_setCell_other (ownsRow_setCell_other (ownsRow_setCell_other HO1.out hne _) hne _) hne _, ?_, HD.out, hw0, hw1⟩
  exact ((HB1.out.setCell (by simp) _).setCell (by simp) _).setCell (by simp) _
end Go.Proofs.YtohbmkppfbbngaaDoor
