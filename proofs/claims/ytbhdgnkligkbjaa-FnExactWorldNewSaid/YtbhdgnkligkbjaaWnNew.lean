/-
  What is proved: the contracts of impl.GroupNew, impl.WorldNew, spec.GroupNew and spec.WorldNew: five groups with the numbers from 0 on, all lists empty, in memory of the call's own. No condition.
-/
import Derived.Test.YtbhdgnkligkbjaaWnBase
namespace Go.Proofs.Ytbhdgnkligkbjaa
open Go.RowKit

theorem grp_info : (Try.prog.info? 35).map (fun i => (i.zero, i.size, i.bytes)) = some (some (.agg #[.int .i64 0, .int .i64 0, .slice none 0 0, .slice none 0 0]), 4, 64) := by kernel_rfl
theorem cells_one4 {a b : Value} {A A' : Option Addr} {c c' : Nat} (ha : a.oneCell' = true) (hb : b.oneCell' = true) : ∀ u ∈ [a, b, Value.slice A 0 c, Value.slice A' 0 c'], u.oneCell' = true := by
  intro u hu
  simp only [List.mem_cons, List.mem_nil_iff, or_false] at hu
  rcases hu with rfl | rfl | rfl | rfl
  · exact ha
  · exact hb
  · rfl
  · rfl
theorem reads_new4 (w : World) {t : TypeId} {g : Nat} {xs : List Value} (hg : g = w.heap.size) (hn : xs.length = 4) : Reads (w.alloc (.cells xs.toArray t)) (g + 1) 4 (some ⟨g, 0, none⟩) 1 xs := by
  subst hg
  refine ⟨by omega, fun _ => ⟨_, rfl, by simp, fun j u hu => ?_⟩⟩
  have := (Blk.new w t xs.toArray).cell j
  rw [Addr.add_lit, Nat.zero_add, this]
  simpa using hu

set_option maxRecDepth 100000 in
theorem isGroup_any (k : Nat) (hk : k < 5) (w : World) : Calls Try.prog 27 #[.int .i64 (k : Int)] w fun e w' => e = .returned (.bool true) ∧ w = w' := by
  have h0 : (0 : Int) ≤ (k : Int) := by omega
  have h1 : (k : Int) < 5 := by omega
  go_enter Try.func27, Try.ntmps27
  go_wp2
  go_ret
  exact ⟨rfl, rfl⟩
set_option maxRecDepth 100000 in
theorem l1Group_any (k : Nat) (hk : k < 5) (w : World) : Calls Try.prog 26 #[.int .i64 (k : Int)] w fun e w' => e = .returned (.bool true) ∧ w = w' := by
  have h0 : (0 : Int) ≤ (k : Int) := by omega
  have h1 : (k : Int) ≤ 4 := by omega
  go_enter Try.func26, Try.ntmps26
  go_wp2_with (fail)
  refine Calls.mono (R := fun e w' => e = .returned (.bool true) ∧ w = w') ?_ ?_
  · go_enter Try.func38, Try.ntmps38
    go_wp2
    go_ret
    exact ⟨rfl, rfl⟩
  · rintro e w' ⟨rfl, rfl⟩
    go_wp2
    go_ret
    exact ⟨rfl, rfl⟩
set_option maxRecDepth 100000 in
theorem implGroupNew_any (k : Nat) (hk : k < 5) (w : World) : Calls Try.prog 10 #[.int .i64 (k : Int)] w fun e w' =>
    e = .returned (.tuple #[.agg #[.int .i64 (k : Int), .int .i64 0, .slice none 0 0, .slice none 0 0], .bool true]) ∧ Below w.heap.size w w' := by
  go_enter Try.func10, Try.ntmps10
  go_wp2_with (go_at_call 27; refine (isGroup_any k hk _).mono ?_; rintro e w' ⟨rfl, rfl⟩)
  refine bodyPost_ret (v := .tuple #[.agg #[.int .i64 (k : Int), .int .i64 0, .slice none 0 0, .slice none 0 0], .bool true]) (by simp [results, Try.results10, go_sem]) rfl ⟨rfl, ?_⟩
  exact (Below.refl _ _).alloc (Nat.le_refl _) _
set_option maxRecDepth 100000 in
theorem specGroupNew_any (k : Nat) (hk : k < 5) (w : World) : Calls Try.prog 9 #[.int .i64 (k : Int)] w fun e w' =>
    (∃ A A', e = .returned (.tuple #[.agg #[.int .i64 (k : Int), .int .i64 0, .slice A 0 0, .slice A' 0 0], .bool true])) ∧ Below w.heap.size w w' := by
  go_enter Try.func9, Try.ntmps9
  go_wp2_with (go_at_call 26; refine (l1Group_any k hk _).mono ?_; rintro e w' ⟨rfl, rfl⟩)
  refine bodyPost_ret (v := .tuple #[.agg #[.int .i64 (k : Int), .int .i64 0, .slice (some ⟨w.heap.size + 1, 0, none⟩) 0 0, .slice (some ⟨w.heap.size + 1 + 1, 0, none⟩) 0 0], .bool true]) (by simp [results, Try.results9, go_sem]) rfl ⟨⟨_, _, rfl⟩, ?_⟩
  repeat (first | with_reducible exact Below.refl _ _ | with_reducible exact Hid.out (by assumption) | with_reducible refine Below.drew ?_ | with_reducible refine Below.alloc ?_ (by first | omega | (simp; done) | (simp; omega)) _ | with_reducible refine Below.setCell ?_ (by first | omega | (simp; done) | (simp; omega)) _)

/-- A result that is a run of five groups with numbers f and clocks g, all lists empty, in memory of the call's own. -/
def RetW (w : World) (f h : Nat → Int) (e : Ending) (w' : World) : Prop :=
  ∃ A0 A2 A3 A4 c0 c2 c3 c4 g c, e = .returned (.agg #[.slice A0 0 c0, .slice (some ⟨g, 0, none⟩) 5 c, .slice A2 0 c2, .slice A3 0 c3, .slice A4 0 c4]) ∧ GRow w' w.heap.size g c 5 f h ∧ Below w.heap.size w w'

/-- The state of WorldNew's loop: b0 holds the result, b1 the run. -/
structure NewSt (w : World) (b0 b1 : Nat) (s0 s2 s3 s4 : Value) (k : Nat) (A : Option Addr) (c : Nat) (xs : List Value) (wr : World) : Prop where
  k0 : Blk wr b0 28 #[.slice none 0 0, .slice none 0 0, .slice none 0 0, .slice none 0 0, .slice none 0 0]
  k1 : Blk wr b1 28 #[s0, .slice A k c, s2, s3, s4]
  ow : wr.ownsRow w.heap.size 35 4 (.slice A k c) k xs
  gr : Grps (fun i => (i : Int)) (fun _ => 0) xs k
  bel : Below w.heap.size w wr
  h0 : w.heap.size ≤ b0
  h1 : w.heap.size ≤ b1
theorem NewSt.below {w : World} {b0 b1 : Nat} {s0 s2 s3 s4 : Value} {k : Nat} {A : Option Addr} {c : Nat} {xs : List Value} {wr wr' : World} (s : NewSt w b0 b1 s0 s2 s3 s4 k A c xs wr) (hb : Below wr.heap.size wr wr') : NewSt w b0 b1 s0 s2 s3 s4 k A c xs wr' := by
  refine ⟨s.k0.below hb s.k0.lt, s.k1.below hb s.k1.lt, ⟨s.ow.1, ?_⟩, s.gr, s.bel.trans (hb.mono s.bel.size), s.h0, s.h1⟩
  rcases s.ow.2 with hn | ⟨g', cap, cur, he, hb', hgg, rest⟩
  · exact .inl hn
  · exact .inr ⟨g', cap, cur, he, hb', (hb.block g' (Array.getElem?_eq_some_iff.1 hgg).1).trans hgg, rest⟩

set_option maxRecDepth 100000 in
set_option maxHeartbeats 2000000 in
theorem implWorldNew_any (w : World) : Calls Try.prog 5 #[] w (RetW w (fun i => (i : Int)) (fun _ => 0)) := by
  obtain ⟨i0, hi0, hz0', hza, hzb⟩ := info_parts grp_info
  go_enter Try.func5, Try.ntmps5
  go_wp2
  have HS : NewSt w w.heap.size (w.heap.size + 1) (.slice none 0 0) (.slice none 0 0) (.slice none 0 0) (.slice none 0 0) 0 none 0 [] ((w.alloc (.cells #[.slice none 0 0, .slice none 0 0, .slice none 0 0, .slice none 0 0, .slice none 0 0] 28)).alloc (.cells #[.slice none 0 0, .slice none 0 0, .slice none 0 0, .slice none 0 0, .slice none 0 0] 28)) :=
    ⟨(Blk.new w _ _).alloc _, Blk.new' _ _ _ (by simp), ⟨rfl, .inl ⟨rfl, rfl⟩⟩, Grps.nil _ _, ((Below.refl _ _).alloc (Nat.le_refl _) _).alloc (by simp) _, Nat.le_refl _, by omega⟩
  go_loopw [6] (fun i wr => ∃ (k : Nat) (A : Option Addr) (c : Nat) (xs : List Value), k ≤ 5 ∧ i = .int .i64 k ∧ NewSt w w.heap.size (w.heap.size + 1) (.slice none 0 0) (.slice none 0 0) (.slice none 0 0) (.slice none 0 0) k A c xs wr) (fun i _ => 5 - (intOf i).toNat)
  case atStart => exact ⟨0, none, 0, [], by omega, rfl, HS⟩
  case round =>
    clear HS
    obtain ⟨k, A, c, xs, hk, rfl, Sr⟩ := hrel
    have SR := Lib.hid Sr
    have k1 := Sr.k1.cell
    have f1 := Sr.k1.frozen
    have k0 := Sr.k0.cell
    have l1 := Sr.k1.lt
    have l0 := Sr.k0.lt
    clear Sr
    by_cases hlt : k < 5
    · go_wp2_with (fail)
      refine (implGroupNew_any k hlt _).mono ?_
      rintro e w1 ⟨rfl, hb1⟩
      have S1 := Lib.hid (SR.out.below hb1)
      have k1' := S1.out.k1.cell
      have f1' := S1.out.k1.frozen
      have l1' := S1.out.k1.lt
      have hsz1 := S1.out.bel.size
      clear hb1 k1 f1 k0
      go_wp2_with (at_builtin
                   refine wpList_append_any _ rfl (.tmp 15) (.tmp 17) _ rfl w.heap.size 35 i0 _ 4 64 Try.underlying23 hi0 hz0' hza hzb rfl (by omega) (.slice A k c) k xs rfl
                     (World.ownsRow.alloc (World.ownsRow.alloc S1.out.ow _) _) (w1.heap.size + 1 + 1) (some ⟨w1.heap.size + 1, 0, none⟩) 1 1 [.int .i64 (k : Int), .int .i64 0, .slice none 0 0, .slice none 0 0] rfl (reads_new4 _ (by simp) rfl) (cells_one4 rfl rfl) (by unfold maxLen; omega) (by omega) (by simp; omega) ?_
                   intro v5 w5 hown5 hg5 hat5
                   rw [show xs ++ [Value.int .i64 (k : Int), Value.int .i64 0, .slice none 0 0, .slice none 0 0] = xs ++ [Value.int .i64 (k : Int), Value.int .i64 0, .slice none 0 0, .slice none 0 0] from rfl] at hown5
                   obtain ⟨A5, c5, rfl⟩ := own_slice hown5
                   have hne1 : (Value.slice A k c).ownBlock ≠ some (w.heap.size + 1) := own_blk_ne S1.out.ow S1.out.k1 (by decide)
                   have hne0 : (Value.slice A k c).ownBlock ≠ some w.heap.size := own_blk_ne S1.out.ow S1.out.k0 (by decide)
                   have K51 := Lib.hid (Blk.grown ((S1.out.k1.alloc (.cells #[.int .i64 (k : Int), .int .i64 0, .slice none 0 0, .slice none 0 0] 35)).alloc (.cells #[.int .i64 (k : Int), .int .i64 0, .slice none 0 0, .slice none 0 0] 35)) hg5 hne1.symm)
                   have K50 := Lib.hid (Blk.grown ((S1.out.k0.alloc (.cells #[.int .i64 (k : Int), .int .i64 0, .slice none 0 0, .slice none 0 0] 35)).alloc (.cells #[.int .i64 (k : Int), .int .i64 0, .slice none 0 0, .slice none 0 0] 35)) hg5 hne0.symm)
                   have HB5 : Hid (Below w.heap.size w w5) := Lib.hid (Below.grown ((S1.out.bel.alloc (by omega) (.cells #[.int .i64 (k : Int), .int .i64 0, .slice none 0 0, .slice none 0 0] 35)).alloc (by simp; omega) (.cells #[.int .i64 (k : Int), .int .i64 0, .slice none 0 0, .slice none 0 0] 35)) hg5 (by simp; omega) (fun q hq => (World.ownsRow.lt S1.out.ow q hq).1))
                   have HO5 := Lib.hid hown5
                   have c51 := K51.out.cell
                   have f51 := K51.out.frozen
                   clear hown5 hg5 hat5 k1' f1')
      go_roundw
      case rel =>
        have hn5 : (Value.slice A5 (k + 1) c5).ownBlock ≠ some (w.heap.size + 1) := own_blk_ne HO5.out K51.out (by decide)
        refine ⟨k + 1, A5, c5, xs ++ [.int .i64 (k : Int), .int .i64 0, .slice none 0 0, .slice none 0 0], by omega, by go_num, ?_⟩
        exact ⟨K50.out.far (by simp <;> omega) _, K51.out.set_ 1 _, ownsRow_setCell_other HO5.out hn5 _, S1.out.gr.snoc rfl rfl _ _ _ _, HB5.out.setCell (by simp <;> omega) _, Nat.le_refl _, by omega⟩
      case measure => simp [intOf]; omega
    · obtain rfl : k = 5 := by omega
      obtain ⟨g, cap, hv, hb, hg⟩ := SR.out.ow.form (by omega)
      simp only [Value.slice.injEq, true_and] at hv
      obtain ⟨rfl, rfl⟩ := hv
      have f0 := SR.out.k0.frozen
      go_wp2
      have hn0 : (Value.slice (some ⟨g, 0, none⟩) 5 c).ownBlock ≠ some w.heap.size := own_blk_ne SR.out.ow SR.out.k0 (by decide)
      have hbel := SR.out.bel
      refine bodyPost_ret (v := .agg #[.slice none 0 0, .slice (some ⟨g, 0, none⟩) 5 c, .slice none 0 0, .slice none 0 0, .slice none 0 0]) (by simp [results, Try.results5, go_sem, k0]) rfl ⟨_, _, _, _, _, _, _, _, g, c, rfl, ⟨xs, ?_, SR.out.gr⟩, ?_⟩
      · repeat (first | with_reducible refine ownsRow_setCell_other ?_ hn0 _)
        exact SR.out.ow
      · (repeat (first | with_reducible exact hbel | with_reducible refine Below.setCell ?_ (by first | omega | (simp; done) | (simp; omega)) _))

set_option maxRecDepth 100000 in
set_option maxHeartbeats 2000000 in
theorem specWorldNew_any (w : World) : Calls Try.prog 4 #[] w (RetW w (fun i => (i : Int)) (fun _ => 0)) := by
  obtain ⟨i0, hi0, hz0', hza, hzb⟩ := info_parts grp_info
  go_enter Try.func4, Try.ntmps4
  go_wp2
  have HS : NewSt w w.heap.size (w.heap.size + 1 + 1 + 1 + 1 + 1) (.slice (some ⟨w.heap.size + 1, 0, none⟩) 0 0) (.slice (some ⟨w.heap.size + 1 + 1, 0, none⟩) 0 0) (.slice (some ⟨w.heap.size + 1 + 1 + 1, 0, none⟩) 0 0) (.slice (some ⟨w.heap.size + 1 + 1 + 1 + 1, 0, none⟩) 0 0) 0 none 0 [] ((((((w.alloc (.cells #[.slice none 0 0, .slice none 0 0, .slice none 0 0, .slice none 0 0, .slice none 0 0] 28)).alloc (.cells #[] 50)).alloc (.cells #[] 55)).alloc (.cells #[] 4)).alloc (.cells #[] 60)).alloc (.cells #[.slice (some ⟨w.heap.size + 1, 0, none⟩) 0 0, .slice none 0 0, .slice (some ⟨w.heap.size + 1 + 1, 0, none⟩) 0 0, .slice (some ⟨w.heap.size + 1 + 1 + 1, 0, none⟩) 0 0, .slice (some ⟨w.heap.size + 1 + 1 + 1 + 1, 0, none⟩) 0 0] 28)) :=
    ⟨((((((Blk.new w _ _).alloc _).alloc _).alloc _).alloc _).alloc _), Blk.new' _ _ _ (by simp), ⟨rfl, .inl ⟨rfl, rfl⟩⟩, Grps.nil _ _, (((((((Below.refl _ _).alloc (Nat.le_refl _) _).alloc (by simp) _).alloc (by simp; omega) _).alloc (by simp; omega) _).alloc (by simp; omega) _).alloc (by simp; omega) _), Nat.le_refl _, by omega⟩
  go_loopw [2] (fun i wr => ∃ (k : Nat) (A : Option Addr) (c : Nat) (xs : List Value), k ≤ 5 ∧ i = .int .i64 k ∧ NewSt w w.heap.size (w.heap.size + 1 + 1 + 1 + 1 + 1) (.slice (some ⟨w.heap.size + 1, 0, none⟩) 0 0) (.slice (some ⟨w.heap.size + 1 + 1, 0, none⟩) 0 0) (.slice (some ⟨w.heap.size + 1 + 1 + 1, 0, none⟩) 0 0) (.slice (some ⟨w.heap.size + 1 + 1 + 1 + 1, 0, none⟩) 0 0) k A c xs wr) (fun i _ => 5 - (intOf i).toNat)
  case atStart => exact ⟨0, none, 0, [], by omega, rfl, HS⟩
  case round =>
    clear HS
    obtain ⟨k, A, c, xs, hk, rfl, Sr⟩ := hrel
    have SR := Lib.hid Sr
    have k1 := Sr.k1.cell
    have f1 := Sr.k1.frozen
    have k0 := Sr.k0.cell
    have l1 := Sr.k1.lt
    have l0 := Sr.k0.lt
    clear Sr
    by_cases hlt : k < 5
    · go_wp2_with (fail)
      refine (specGroupNew_any k hlt _).mono ?_
      rintro e w1 ⟨⟨A0, A0', rfl⟩, hb1⟩
      have S1 := Lib.hid (SR.out.below hb1)
      have k1' := S1.out.k1.cell
      have f1' := S1.out.k1.frozen
      have l1' := S1.out.k1.lt
      have hsz1 := S1.out.bel.size
      clear hb1 k1 f1 k0
      go_wp2_with (at_builtin
                   refine wpList_append_any _ rfl (.tmp 20) (.tmp 22) _ rfl w.heap.size 35 i0 _ 4 64 Try.underlying23 hi0 hz0' hza hzb rfl (by omega) (.slice A k c) k xs rfl
                     (World.ownsRow.alloc (World.ownsRow.alloc S1.out.ow _) _) (w1.heap.size + 1 + 1) (some ⟨w1.heap.size + 1, 0, none⟩) 1 1 [.int .i64 (k : Int), .int .i64 0, .slice A0 0 0, .slice A0' 0 0] rfl (reads_new4 _ (by simp) rfl) (cells_one4 rfl rfl) (by unfold maxLen; omega) (by omega) (by simp; omega) ?_
                   intro v5 w5 hown5 hg5 hat5
                   rw [show xs ++ [Value.int .i64 (k : Int), Value.int .i64 0, .slice A0 0 0, .slice A0' 0 0] = xs ++ [Value.int .i64 (k : Int), Value.int .i64 0, .slice A0 0 0, .slice A0' 0 0] from rfl] at hown5
                   obtain ⟨A5, c5, rfl⟩ := own_slice hown5
                   have hne1 : (Value.slice A k c).ownBlock ≠ some (w.heap.size + 1 + 1 + 1 + 1 + 1) := own_blk_ne S1.out.ow S1.out.k1 (by decide)
                   have hne0 : (Value.slice A k c).ownBlock ≠ some w.heap.size := own_blk_ne S1.out.ow S1.out.k0 (by decide)
                   have K51 := Lib.hid (Blk.grown ((S1.out.k1.alloc (.cells #[.int .i64 (k : Int), .int .i64 0, .slice A0 0 0, .slice A0' 0 0] 35)).alloc (.cells #[.int .i64 (k : Int), .int .i64 0, .slice A0 0 0, .slice A0' 0 0] 35)) hg5 hne1.symm)
                   have K50 := Lib.hid (Blk.grown ((S1.out.k0.alloc (.cells #[.int .i64 (k : Int), .int .i64 0, .slice A0 0 0, .slice A0' 0 0] 35)).alloc (.cells #[.int .i64 (k : Int), .int .i64 0, .slice A0 0 0, .slice A0' 0 0] 35)) hg5 hne0.symm)
                   have HB5 : Hid (Below w.heap.size w w5) := Lib.hid (Below.grown ((S1.out.bel.alloc (by omega) (.cells #[.int .i64 (k : Int), .int .i64 0, .slice A0 0 0, .slice A0' 0 0] 35)).alloc (by simp; omega) (.cells #[.int .i64 (k : Int), .int .i64 0, .slice A0 0 0, .slice A0' 0 0] 35)) hg5 (by simp; omega) (fun q hq => (World.ownsRow.lt S1.out.ow q hq).1))
                   have HO5 := Lib.hid hown5
                   have c51 := K51.out.cell
                   have f51 := K51.out.frozen
                   clear hown5 hg5 hat5 k1' f1')
      go_roundw
      case rel =>
        have hn5 : (Value.slice A5 (k + 1) c5).ownBlock ≠ some (w.heap.size + 1 + 1 + 1 + 1 + 1) := own_blk_ne HO5.out K51.out (by decide)
        refine ⟨k + 1, A5, c5, xs ++ [.int .i64 (k : Int), .int .i64 0, .slice A0 0 0, .slice A0' 0 0], by omega, by go_num, ?_⟩
        exact ⟨K50.out.far (by simp <;> omega) _, K51.out.set_ 1 _, ownsRow_setCell_other HO5.out hn5 _, S1.out.gr.snoc rfl rfl _ _ _ _, HB5.out.setCell (by simp <;> omega) _, Nat.le_refl _, by omega⟩
      case measure => simp [intOf]; omega
    · obtain rfl : k = 5 := by omega
      obtain ⟨g, cap, hv, hb, hg⟩ := SR.out.ow.form (by omega)
      simp only [Value.slice.injEq, true_and] at hv
      obtain ⟨rfl, rfl⟩ := hv
      have f0 := SR.out.k0.frozen
      go_wp2
      have hn0 : (Value.slice (some ⟨g, 0, none⟩) 5 c).ownBlock ≠ some w.heap.size := own_blk_ne SR.out.ow SR.out.k0 (by decide)
      have hbel := SR.out.bel
      refine bodyPost_ret (v := .agg #[.slice (some ⟨w.heap.size + 1, 0, none⟩) 0 0, .slice (some ⟨g, 0, none⟩) 5 c, .slice (some ⟨w.heap.size + 1 + 1, 0, none⟩) 0 0, .slice (some ⟨w.heap.size + 1 + 1 + 1, 0, none⟩) 0 0, .slice (some ⟨w.heap.size + 1 + 1 + 1 + 1, 0, none⟩) 0 0]) (by simp [results, Try.results4, go_sem, k0]) rfl ⟨_, _, _, _, _, _, _, _, g, c, rfl, ⟨xs, ?_, SR.out.gr⟩, ?_⟩
      · repeat (first | with_reducible refine ownsRow_setCell_other ?_ hn0 _)
        exact SR.out.ow
      · (repeat (first | with_reducible exact hbel | with_reducible refine Below.setCell ?_ (by first | omega | (simp; done) | (simp; omega)) _))

end Go.Proofs.Ytbhdgnkligkbjaa
