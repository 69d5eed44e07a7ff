/-
  What is proved: the contracts of laws.eqGroup, eqGroupS, eqWorld, markGroupS, markWorld, heldGroupS and heldWorld at runs of five groups whose lists are empty. Conditions: the rows of groups.
-/
import Derived.Test.YtbhdgnkligkbjaaWnNew
import Derived.Deep.RegionHeld3
namespace Go.Proofs.Ytbhdgnkligkbjaa
open Go.RowKit

set_option maxRecDepth 100000 in
set_option maxHeartbeats 1000000 in
theorem eqGroup_any (a b : Int) (A0 A1 A2 A3 : Option Addr) (c0 c1 c2 c3 : Nat) (w : World) :
    Calls Try.prog 29 #[.agg #[.int .i64 a, .int .i64 b, .slice A0 0 c0, .slice A1 0 c1], .agg #[.int .i64 a, .int .i64 b, .slice A2 0 c2, .slice A3 0 c3]] w fun e w' => e = .returned (.bool true) ∧ Below w.heap.size w w' := by
  have ta : (a != a) = false := by simp
  have tb : (b != b) = false := by simp
  go_enter Try.func29, Try.ntmps29
  go_wp2_with (go_at_call 39; refine (eqEntryS_nil _ _ _ _ _).mono ?_; rintro e w' ⟨rfl, rfl⟩)
  go_ret
  exact ⟨rfl, ((Below.refl _ _).alloc (Nat.le_refl _) _).alloc (by simp) _⟩

set_option maxRecDepth 100000 in
set_option maxHeartbeats 2000000 in
theorem eqGroupS_any (base g c base' g' c' : Nat) (f h : Nat → Int) (w : World) (hs : GRow w base g c 5 f h) (hs' : GRow w base' g' c' 5 f h) :
    Calls Try.prog 12 #[.slice (some ⟨g, 0, none⟩) 5 c, .slice (some ⟨g', 0, none⟩) 5 c'] w fun e w' => e = .returned (.bool true) ∧ Below w.heap.size w w' := by
  have HS := Lib.hid hs
  have HS' := Lib.hid hs'
  clear hs hs'
  go_enter Try.func12, Try.ntmps12
  go_wp2
  go_loopw [5] (fun i wr => ∃ k : Nat, k ≤ 5 ∧ i = .int .i64 k ∧ Below w.heap.size w wr) (fun i _ => 5 - (intOf i).toNat)
  case atStart => exact ⟨0, by omega, rfl, Below.refl _ _⟩
  case round =>
    obtain ⟨k, hk, rfl, hb⟩ := hrel
    have HB := Lib.hid hb
    by_cases hlt : k < 5
    · obtain ⟨q0, q1, B2, d2, B3, d3, q2, q3⟩ := (HS.out.below hb).at_ hlt
      obtain ⟨r0, r1, B2', d2', B3', d3', r2, r3⟩ := (HS'.out.below hb).at_ hlt
      have hg := HS.out.lt
      have hg' := HS'.out.lt
      have hsz := hb.size
      have b0 : (0 : Int) ≤ (k : Int) := by omega
      have b1 : (k : Int) < 5 := by omega
      clear hb
      go_wp2_with (fail)
      go_region_held3 (fun w' => w'.cell? ⟨g, k * 4, none⟩ = some (.int .i64 (f k)) ∧ w'.cell? ⟨g, k * 4 + 1, none⟩ = some (.int .i64 (h k)) ∧ w'.cell? ⟨g, k * 4 + 2, none⟩ = some (.slice B2 0 d2) ∧ w'.cell? ⟨g, k * 4 + 3, none⟩ = some (.slice B3 0 d3) ∧
          w'.cell? ⟨g', k * 4, none⟩ = some (.int .i64 (f k)) ∧ w'.cell? ⟨g', k * 4 + 1, none⟩ = some (.int .i64 (h k)) ∧ w'.cell? ⟨g', k * 4 + 2, none⟩ = some (.slice B2' 0 d2') ∧ w'.cell? ⟨g', k * 4 + 3, none⟩ = some (.slice B3' 0 d3'))
        (first
          | exact ⟨q0, q1, q2, q3, r0, r1, r2, r3⟩
          | exact HT.out)
        ((go_at_call 29
          refine (eqGroup_any (f k) (h k) B2 B3 B2' B3' d2 d3 d2' d3' _).mono ?_
          rintro e w1 ⟨rfl, hb1⟩
          have hbb : Below wr.heap.size wr w1 := (Below.refl _ _).drew.trans hb1
          have HB1 := Lib.hid hbb
          have k1 := fun o => hbb.cell (p := ⟨g, o, none⟩) (by show g < _; omega)
          have k2 := fun o => hbb.cell (p := ⟨g', o, none⟩) (by show g' < _; omega)
          have HT := Lib.hid (And.intro ((k1 _).trans q0) (And.intro ((k1 _).trans q1) (And.intro ((k1 _).trans q2) (And.intro ((k1 _).trans q3) (And.intro ((k2 _).trans r0) (And.intro ((k2 _).trans r1) (And.intro ((k2 _).trans r2) ((k2 _).trans r3))))))))
          clear hb1 hbb k1 k2))
      all_goals
        go_wp2
        go_roundw
        case rel => exact ⟨k + 1, by omega, by go_num, HB.out.trans (HB1.out.mono (by omega))⟩
        case measure => simp [intOf]; omega
    · obtain rfl : k = 5 := by omega
      clear hb
      go_wp2
      go_ret
      exact ⟨rfl, HB.out⟩

set_option maxRecDepth 100000 in
set_option maxHeartbeats 1000000 in
theorem eqWorld_any (A0 A2 A3 A4 B0 B2 B3 B4 : Option Addr) (c0 c2 c3 c4 d0 d2 d3 d4 : Nat) (base g c base' g' c' : Nat) (f h : Nat → Int) (w : World) (hs : GRow w base g c 5 f h) (hs' : GRow w base' g' c' 5 f h) :
    Calls Try.prog 6 #[.agg #[.slice A0 0 c0, .slice (some ⟨g, 0, none⟩) 5 c, .slice A2 0 c2, .slice A3 0 c3, .slice A4 0 c4], .agg #[.slice B0 0 d0, .slice (some ⟨g', 0, none⟩) 5 c', .slice B2 0 d2, .slice B3 0 d3, .slice B4 0 d4]] w
      fun e w' => e = .returned (.bool true) ∧ Below w.heap.size w w' := by
  have HS := Lib.hid hs
  have HS' := Lib.hid hs'
  clear hs hs'
  go_enter Try.func6, Try.ntmps6
  go_wp2_with (go_at_call 11; refine (eqIntSS_nil _ _ _ _ _).mono ?_; rintro e w' ⟨rfl, rfl⟩)
  have HA : Hid (Below w.heap.size w ((w.alloc (.cells #[.slice A0 0 c0, .slice (some ⟨g, 0, none⟩) 5 c, .slice A2 0 c2, .slice A3 0 c3, .slice A4 0 c4] 28)).alloc (.cells #[.slice B0 0 d0, .slice (some ⟨g', 0, none⟩) 5 c', .slice B2 0 d2, .slice B3 0 d3, .slice B4 0 d4] 28))) :=
    Lib.hid (((Below.refl _ _).alloc (Nat.le_refl _) _).alloc (by simp) _)
  refine (eqGroupS_any base g c base' g' c' f h _ (by exact HS.out.below HA.out) (by exact HS'.out.below HA.out)).mono ?_
  rintro e w1 ⟨rfl, hb1⟩
  have k0 := ((Blk.new w 28 #[.slice A0 0 c0, .slice (some ⟨g, 0, none⟩) 5 c, .slice A2 0 c2, .slice A3 0 c3, .slice A4 0 c4]).alloc (.cells #[.slice B0 0 d0, .slice (some ⟨g', 0, none⟩) 5 c', .slice B2 0 d2, .slice B3 0 d3, .slice B4 0 d4] 28)).below hb1 (by simp; omega)
  have k1 := (Blk.new' (g := w.heap.size + 1) (w.alloc (.cells #[.slice A0 0 c0, .slice (some ⟨g, 0, none⟩) 5 c, .slice A2 0 c2, .slice A3 0 c3, .slice A4 0 c4] 28)) 28 #[.slice B0 0 d0, .slice (some ⟨g', 0, none⟩) 5 c', .slice B2 0 d2, .slice B3 0 d3, .slice B4 0 d4] (by simp)).below hb1 (by simp)
  have x0 := k0.cell
  have x1 := k1.cell
  have HB := Lib.hid (HA.out.trans (hb1.mono (by simp; omega)))
  clear hb1 k0 k1
  go_wp2_with (first
    | (go_at_call 13; refine (eqRoundS_nil _ _ _ _ _).mono ?_; rintro e w' ⟨rfl, rfl⟩)
    | (go_at_call 14; refine (eqBoolS_nil _ _ _ _ _).mono ?_; rintro e w' ⟨rfl, rfl⟩)
    | (go_at_call 15; refine (eqPacketS_nil _ _ _ _ _).mono ?_; rintro e w' ⟨rfl, rfl⟩))
  go_ret
  exact ⟨rfl, HB.out⟩
end Go.Proofs.Ytbhdgnkligkbjaa
