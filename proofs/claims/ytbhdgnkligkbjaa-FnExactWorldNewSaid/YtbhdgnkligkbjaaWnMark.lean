/-
  What is proved: the contracts of laws.markGroupS, markWorld, heldGroupS and heldWorld at runs of five groups whose lists are empty: the first two write the numbers from 1 on, the other two find them. Conditions: the rows of groups.
-/
import Derived.Test.YtbhdgnkligkbjaaWnWorld
namespace Go.Proofs.Ytbhdgnkligkbjaa
open Go.RowKit

def mkF (k : Nat) (f : Nat → Int) (i : Nat) : Int := if i < k then 1 + 2 * (i : Int) else f i
def mkH (k : Nat) (h : Nat → Int) (i : Nat) : Int := if i < k then 2 + 2 * (i : Int) else h i

set_option maxRecDepth 100000 in
set_option maxHeartbeats 2000000 in
theorem markGroupS_any (base g c : Nat) (f h : Nat → Int) (w : World) (hs : GRow w base g c 5 f h) :
    Calls Try.prog 17 #[.slice (some ⟨g, 0, none⟩) 5 c, .int .i64 1] w fun e w' => e = .returned (.int .i64 11) ∧ GRow w' base g c 5 (mkF 5 f) (mkH 5 h) ∧ w.grownBy w' (some g) := by
  have HS := Lib.hid hs
  clear hs
  go_enter Try.func17, Try.ntmps17
  go_wp2
  go_loopw [1, 5] (fun v i wr => ∃ k : Nat, k ≤ 5 ∧ i = .int .i64 k ∧ v = .int .i64 (1 + 2 * (k : Int)) ∧ GRow wr base g c 5 (mkF k f) (mkH k h) ∧ w.grownBy wr (some g)) (fun _ i _ => 5 - (intOf i).toNat)
  case atStart => exact ⟨0, by omega, rfl, rfl, HS.out.congr (fun i _ => by simp [mkF]) (fun i _ => by simp [mkH]), World.grownBy.refl w _⟩
  case round =>
    obtain ⟨k, hk, rfl, rfl, hr, hg⟩ := hrel
    have HG := Lib.hid hg
    have HR := Lib.hid hr
    by_cases hlt : k < 5
    · obtain ⟨q0, q1, B2, d2, B3, d3, q2, q3⟩ := hr.at_ hlt
      have fz := hr.frozen
      have hlg := hr.lt
      have e0 := hr.set0 hlt (1 + 2 * (k : Int))
      have e1 := e0.1.set1 hlt (1 + 2 * (k : Int) + 1)
      have HE := Lib.hid e1.1
      have HX := Lib.hid (grown_trans hg (grown_trans e0.2 e1.2))
      clear hr hg e0 e1
      go_wp2_with (go_at_call 33; refine (markEntryS_nil _ _ _ _).mono ?_; rintro e w' ⟨rfl, rfl⟩)
      go_roundw
      case rel =>
        refine ⟨k + 1, by omega, by go_num, by go_num, HE.out.congr (fun i _ => ?_) (fun i _ => ?_), HX.out⟩
        · unfold mkF
          by_cases e : i = k
          · subst e; rw [if_pos rfl, if_pos (by omega)]
          · rw [if_neg e]
            by_cases e2 : i < k
            · rw [if_pos e2, if_pos (by omega)]
            · rw [if_neg e2, if_neg (by omega)]
        · unfold mkH
          by_cases e : i = k
          · subst e; rw [if_pos rfl, if_pos (by omega)]; omega
          · rw [if_neg e]
            by_cases e2 : i < k
            · rw [if_pos e2, if_pos (by omega)]
            · rw [if_neg e2, if_neg (by omega)]
      case measure => simp [intOf]; omega
    · obtain rfl : k = 5 := by omega
      clear hr hg
      go_wp2
      go_ret
      exact ⟨rfl, HR.out, HG.out⟩

set_option maxRecDepth 100000 in
set_option maxHeartbeats 2000000 in
theorem heldGroupS_any (base g c : Nat) (f h : Nat → Int) (w : World) (hs : GRow w base g c 5 (mkF 5 f) (mkH 5 h)) :
    Calls Try.prog 22 #[.slice (some ⟨g, 0, none⟩) 5 c, .int .i64 1] w fun e w' => e = .returned (.int .i64 11) ∧ w = w' := by
  have HS := Lib.hid hs
  clear hs
  go_enter Try.func22, Try.ntmps22
  go_wp2
  go_loop [1, 5] (fun v i => ∃ k : Nat, k ≤ 5 ∧ i = .int .i64 k ∧ v = .int .i64 (1 + 2 * (k : Int))) (fun _ i => 5 - (intOf i).toNat)
  case atStart => exact ⟨0, by omega, rfl, rfl⟩
  case round =>
    obtain ⟨k, hk, rfl, rfl⟩ := hrel
    by_cases hlt : k < 5
    · obtain ⟨q0, q1, B2, d2, B3, d3, q2, q3⟩ := HS.out.at_ hlt
      have e0 : mkF 5 f k = 1 + 2 * (k : Int) := by unfold mkF; rw [if_pos hlt]
      have e1 : mkH 5 h k = 1 + 2 * (k : Int) + 1 := by unfold mkH; rw [if_pos hlt]; omega
      rw [e0] at q0
      rw [e1] at q1
      have t0 : ((1 + 2 * (k : Int)) != (1 + 2 * (k : Int))) = false := by simp
      have t1 : ((1 + 2 * (k : Int) + 1) != (1 + 2 * (k : Int) + 1)) = false := by simp
      clear e0 e1
      go_wp2_with (go_at_call 36; refine (heldEntryS_nil _ _ _ _).mono ?_; rintro e w' ⟨rfl, rfl⟩)
      go_round
      case rel => exact ⟨k + 1, by omega, by go_num, by go_num⟩
      case measure => simp [intOf]; omega
    · obtain rfl : k = 5 := by omega
      go_wp2
      go_ret
      exact ⟨rfl, rfl⟩

set_option maxRecDepth 100000 in
set_option maxHeartbeats 1000000 in
theorem markWorld_any (A0 A2 A3 A4 : Option Addr) (c0 c2 c3 c4 : Nat) (base g c : Nat) (f h : Nat → Int) (w : World) (hs : GRow w base g c 5 f h) :
    Calls Try.prog 7 #[.agg #[.slice A0 0 c0, .slice (some ⟨g, 0, none⟩) 5 c, .slice A2 0 c2, .slice A3 0 c3, .slice A4 0 c4], .int .i64 1] w
      fun e w' => e = .returned (.int .i64 11) ∧ GRow w' base g c 5 (mkF 5 f) (mkH 5 h) ∧ w.grownBy w' (some g) := by
  have HS := Lib.hid hs
  have hlg := hs.lt
  clear hs
  go_enter Try.func7, Try.ntmps7
  go_wp2_with (go_at_call 16; refine (markIntSS_nil _ _ _ _).mono ?_; rintro e w' ⟨rfl, rfl⟩)
  refine (markGroupS_any base g c f h _ (by exact HS.out.below ((Below.refl _ _).alloc (Nat.le_refl _) _))).mono ?_
  rintro e w1 ⟨rfl, hr1, hg1⟩
  have k0 := (Blk.new w 28 #[.slice A0 0 c0, .slice (some ⟨g, 0, none⟩) 5 c, .slice A2 0 c2, .slice A3 0 c3, .slice A4 0 c4]).grown hg1 (by simp; omega)
  have x0 := k0.cell
  have HR := Lib.hid hr1
  have HG := Lib.hid (grown_trans (World.grownBy_alloc w _ _) hg1)
  clear hr1 hg1 k0
  go_wp2_with (first
    | (go_at_call 18; refine (markRoundS_nil _ _ _ _).mono ?_; rintro e w' ⟨rfl, rfl⟩)
    | (go_at_call 19; refine (markBoolS_nil _ _ _ _).mono ?_; rintro e w' ⟨rfl, rfl⟩)
    | (go_at_call 20; refine (markPacketS_nil _ _ _ _).mono ?_; rintro e w' ⟨rfl, rfl⟩))
  go_ret
  exact ⟨rfl, HR.out, HG.out⟩

set_option maxRecDepth 100000 in
set_option maxHeartbeats 1000000 in
theorem heldWorld_any (A0 A2 A3 A4 : Option Addr) (c0 c2 c3 c4 : Nat) (base g c : Nat) (f h : Nat → Int) (w : World) (hs : GRow w base g c 5 (mkF 5 f) (mkH 5 h)) :
    Calls Try.prog 8 #[.agg #[.slice A0 0 c0, .slice (some ⟨g, 0, none⟩) 5 c, .slice A2 0 c2, .slice A3 0 c3, .slice A4 0 c4], .int .i64 1] w
      fun e w' => e = .returned (.int .i64 11) ∧ Below w.heap.size w w' := by
  have HS := Lib.hid hs
  have hlg := hs.lt
  clear hs
  go_enter Try.func8, Try.ntmps8
  go_wp2_with (go_at_call 21; refine (heldIntSS_nil _ _ _ _).mono ?_; rintro e w' ⟨rfl, rfl⟩)
  refine (heldGroupS_any base g c f h _ (by exact HS.out.below ((Below.refl _ _).alloc (Nat.le_refl _) _))).mono ?_
  rintro e w1 ⟨rfl, rfl⟩
  go_wp2_with (first
    | (go_at_call 23; refine (heldRoundS_nil _ _ _ _).mono ?_; rintro e w' ⟨rfl, rfl⟩)
    | (go_at_call 24; refine (heldBoolS_nil _ _ _ _).mono ?_; rintro e w' ⟨rfl, rfl⟩)
    | (go_at_call 25; refine (heldPacketS_nil _ _ _ _).mono ?_; rintro e w' ⟨rfl, rfl⟩))
  go_ret
  exact ⟨rfl, (Below.refl _ _).alloc (Nat.le_refl _) _⟩
end Go.Proofs.Ytbhdgnkligkbjaa
