/-
  What is proved: the contracts of impl.LockAsk and impl.LockFree: what lock each returns, in memory of its own, and whether it succeeds. Condition: the line reads as a list of at most 2^20 numbers, and the variable errors.errorType holds the handle of the type error.
-/
import Derived.Test.YtohbmkppfbbngaaDoorChange2
import Derived.Test.YtohbmkppfbbngaaDoorChange3
namespace Go.Proofs.YtohbmkppfbbngaaDoor
open Go.RowKit

theorem filter_lt {zs : List Int} {who : Int} (h : who ∈ zs) : (zs.filter (· ≠ who)).length < zs.length := by
  induction zs with
  | nil => simp at h
  | cons a r ih =>
    rw [List.filter_cons]
    split
    · rename_i ha
      simp only [List.length_cons]
      have : who ∈ r := by
        rcases List.mem_cons.1 h with e | e
        · simp at ha; exact absurd e.symm ha
        · exact e
      have := ih this
      omega
    · have := List.length_filter_le (fun x : Int => decide (x ≠ who)) r
      simp only [List.length_cons]
      omega

theorem changeAsk_any (h f who : Int) (A : Option Addr) (n c B bw : Nat) (zs : List Int) (W : World) (hr : Reads W B 1 A n (ints zs)) (hB : B ≤ W.heap.size) (hn : n ≤ c) (hc : c ≤ maxLen) (hn2 : n ≤ 1048576)
    (hw : Blk W bw 3 #[.int .i64 who]) (hg : Held W) :
    Calls Tryd.prog 36 #[.agg #[.int .i64 h, .int .i64 f, .slice A n c], .int .i64 who, .func (.func 42) #[] #[.pointer (some ⟨bw, 0, none⟩)]] W fun e w' => RetLockOk W.heap.size (askP h f zs who) e w' ∧ Below W.heap.size W w' := by
  by_cases hb : lvB h f zs = true ∧ 0 ≤ who ∧ who ≤ 3
  · have hl := hr.len_ints
    have hn4 : n ≤ 4 := by rw [← hl]; exact lvB_len hb.1
    have hnum := lvB_nums hb.1
    by_cases hq : h = who ∨ who ∈ zs ∨ 99 ≤ f + zs.length
    · rw [ask_no hb.1 hb.2 hq]
      exact change_no_ask h f who A n c B bw zs W hr hB hn hc hn2 hw hg hb.1 hb.2 fun b9 A2 c2 V hk hw ho hb9 =>
        askFn_no h f who A2 n c2 V.heap.size b9 bw (W.heap.size + 1 + 1 + 1) zs V hk hw (Reads.of_own ho) hn4 hnum.2.2.1 hnum.2.2.2 hq
    · by_cases h0 : 0 ≤ h
      · rw [ask_line hb.1 hb.2 hq h0]
        exact change_ok_ask h f who A n c B bw zs W hr hB hn hc hn2 hw hg hb.1 hb.2 h f (zs ++ [who]) fun b9 A2 c2 V hk hw ho hb9 =>
          askFn_line h f who A2 n c2 V.heap.size b9 bw (W.heap.size + 1 + 1 + 1) zs V hk hw (Reads.of_own ho) ho hb9 hn4 hnum.2.2.1 hnum.2.2.2 hq (by omega)
      · rw [ask_free hb.1 hb.2 hq h0]
        exact change_ok_ask h f who A n c B bw zs W hr hB hn hc hn2 hw hg hb.1 hb.2 who (f + 1) zs fun b9 A2 c2 V hk hw ho hb9 =>
          askFn_free h f who A2 n c2 V.heap.size b9 bw (W.heap.size + 1 + 1 + 1) zs V hk hw (Reads.of_own ho) ho hb9 hn4 hnum.2.2.1 hnum.2.2.2 hq (by omega)
  · rw [ask_bad hb]
    exact change_bad _ h f who A n c B bw zs W hr hB hn hc hn2 hw hg hb

theorem changeFree_any (h f who : Int) (A : Option Addr) (n c B bw : Nat) (zs : List Int) (W : World) (hr : Reads W B 1 A n (ints zs)) (hB : B ≤ W.heap.size) (hn : n ≤ c) (hc : c ≤ maxLen) (hn2 : n ≤ 1048576)
    (hw : Blk W bw 3 #[.int .i64 who]) (hg : Held W) :
    Calls Tryd.prog 36 #[.agg #[.int .i64 h, .int .i64 f, .slice A n c], .int .i64 who, .func (.func 37) #[] #[.pointer (some ⟨bw, 0, none⟩)]] W fun e w' => RetLockOk W.heap.size (freeP h f zs who) e w' ∧ Below W.heap.size W w' := by
  by_cases hb : lvB h f zs = true ∧ 0 ≤ who ∧ who ≤ 3
  · have hl := hr.len_ints
    have hn4 : n ≤ 4 := by rw [← hl]; exact lvB_len hb.1
    have hnum := lvB_nums hb.1
    by_cases hh : h = who
    · by_cases hf : zs ≠ [] ∧ f < 99
      · cases zs with
        | nil => exact absurd rfl hf.1
        | cons z r =>
          rw [free_next hb.1 hb.2 hh hf.2]
          exact change_ok_free h f who A n c B bw (z :: r) W hr hB hn hc hn2 hw hg hb.1 hb.2 z (f + 1) r fun b9 A2 c2 V hk hw ho hb9 =>
            freeFn_next h f who A2 n c2 V.heap.size b9 bw (W.heap.size + 1 + 1 + 1) z r V hk hw (Reads.of_own ho) ho hb9 hn4 hnum.2.2.1 hnum.2.2.2 hh hf.2
      · rw [free_none hb.1 hb.2 hh hf]
        exact change_ok_free h f who A n c B bw zs W hr hB hn hc hn2 hw hg hb.1 hb.2 (-1) f zs fun b9 A2 c2 V hk hw ho hb9 =>
          freeFn_none h f who A2 n c2 V.heap.size b9 bw (W.heap.size + 1 + 1 + 1) zs V hk hw (Reads.of_own ho) ho hb9 hn4 hnum.2.2.1 hnum.2.2.2 hh (by
            by_cases hz : zs = []
            · exact .inl (by rw [← hl, hz]; rfl)
            · exact .inr (by have h9 : ¬ f < 99 := fun e => hf ⟨hz, e⟩; omega))
    · rw [free_line hb.1 hb.2 hh]
      by_cases hm : who ∈ zs
      · have e : decide ((zs.filter (· ≠ who)).length < zs.length) = true := decide_eq_true (filter_lt hm)
        rw [e]
        exact change_ok_free h f who A n c B bw zs W hr hB hn hc hn2 hw hg hb.1 hb.2 h f (zs.filter (· ≠ who)) fun b9 A2 c2 V hk hw ho hb9 =>
          freeFn_line h f who A2 n c2 V.heap.size b9 bw (W.heap.size + 1 + 1 + 1) zs V hk hw (Reads.of_own ho) ho hb9 hn4 hnum.2.2.1 hnum.2.2.2 hh hm
      · have e : zs.filter (· ≠ who) = zs := List.filter_eq_self.2 fun a ha => by simp; rintro rfl; exact hm ha
        have e2 : decide (zs.length < zs.length) = false := by simp
        rw [e, e2]
        exact change_no_free h f who A n c B bw zs W hr hB hn hc hn2 hw hg hb.1 hb.2 fun b9 A2 c2 V hk hw ho hb9 =>
          freeFn_no h f who A2 n c2 V.heap.size b9 bw (W.heap.size + 1 + 1 + 1) zs V hk hw (Reads.of_own ho) ho hb9 hn4 hnum.2.2.1 hnum.2.2.2 hh hm
  · rw [free_bad hb]
    exact change_bad _ h f who A n c B bw zs W hr hB hn hc hn2 hw hg hb

set_option maxRecDepth 100000 in
set_option maxHeartbeats 1000000 in
theorem implAsk_any (h f who : Int) (A : Option Addr) (n c B : Nat) (zs : List Int) (w : World) (hr : Reads w B 1 A n (ints zs)) (hB : B ≤ w.heap.size) (hn : n ≤ c) (hc : c ≤ maxLen) (hn2 : n ≤ 1048576) (hg : Held w) :
    Calls Tryd.prog 20 #[.agg #[.int .i64 h, .int .i64 f, .slice A n c], .int .i64 who] w fun e w' => RetLockOk w.heap.size (askP h f zs who) e w' ∧ Below w.heap.size w w' := by
  have HR := Lib.hid hr
  have HG := Lib.hid hg
  have hlt := hg.lt
  clear hr hg
  go_enter Tryd.func20, Tryd.ntmps20
  go_wp2_with (fail)
  refine (changeAsk_any h f who A n c B (w.heap.size + 1) zs _ (((HR.out.alloc hB _).alloc (by simp; omega) _).alloc (by simp; omega) _) (by simp; omega) hn hc hn2
    ((Blk.new' _ _ _ (by simp)).alloc _) (HG.out.below ((((Below.refl _ _).alloc (Nat.le_refl _) _).alloc (by simp) _).alloc (by simp; omega) _))).mono ?_
  rintro e w1 ⟨⟨A1, n1, c1, rfl, hown1⟩, hb1⟩
  have HX1 := Lib.hid ((Blk.new' (g := w.heap.size + 1 + 1) ((w.alloc (.cells #[.int .i64 h, .int .i64 f, .slice A n c] 25)).alloc (.cells #[.int .i64 who] 3)) 25 #[.int .i64 0, .int .i64 0, .slice none 0 0] (by simp)).below hb1 (by simp))
  have HB1 : Hid (Below w.heap.size w w1) := Lib.hid (((((Below.refl _ _).alloc (Nat.le_refl _) _).alloc (by simp) _).alloc (by simp; omega) _).trans (hb1.mono (by simp; omega)))
  have HO1 := Lib.hid (own_mono hown1 (show w.heap.size ≤ _ by simp; omega))
  have hne : (Value.slice A1 n1 c1).ownBlock ≠ some (w.heap.size + 1 + 1) := own_blk_ne HO1.out HX1.out (by decide)
  have x1 := HX1.out.cell
  have y1 := HX1.out.frozen
  clear hown1 hb1
  go_wp2_with (fail)
  refine bodyPost_ret (v := .tuple #[.agg #[.int .i64 (askP h f zs who).1.1, .int .i64 (askP h f zs who).1.2.1, .slice A1 n1 c1], .bool (askP h f zs who).2]) (by simp [results, Tryd.results20, go_sem, x1]) rfl ⟨⟨A1, n1, c1, rfl, ?_⟩, ?_⟩
  · exact ownsRow_setCell_other (ownsRow_setCell_other (ownsRow_setCell_other HO1.out hne _) hne _) hne _
  · exact ((HB1.out.setCell (by simp; omega) _).setCell (by simp; omega) _).setCell (by simp; omega) _

set_option maxRecDepth 100000 in
set_option maxHeartbeats 1000000 in
theorem implFree_any (h f who : Int) (A : Option Addr) (n c B : Nat) (zs : List Int) (w : World) (hr : Reads w B 1 A n (ints zs)) (hB : B ≤ w.heap.size) (hn : n ≤ c) (hc : c ≤ maxLen) (hn2 : n ≤ 1048576) (hg : Held w) :
    Calls Tryd.prog 16 #[.agg #[.int .i64 h, .int .i64 f, .slice A n c], .int .i64 who] w fun e w' => RetLockOk w.heap.size (freeP h f zs who) e w' ∧ Below w.heap.size w w' := by
  have HR := Lib.hid hr
  have HG := Lib.hid hg
  have hlt := hg.lt
  clear hr hg
  go_enter Tryd.func16, Tryd.ntmps16
  go_wp2_with (fail)
  refine (changeFree_any h f who A n c B (w.heap.size + 1) zs _ (((HR.out.alloc hB _).alloc (by simp; omega) _).alloc (by simp; omega) _) (by simp; omega) hn hc hn2
    ((Blk.new' _ _ _ (by simp)).alloc _) (HG.out.below ((((Below.refl _ _).alloc (Nat.le_refl _) _).alloc (by simp) _).alloc (by simp; omega) _))).mono ?_
  rintro e w1 ⟨⟨A1, n1, c1, rfl, hown1⟩, hb1⟩
  have HX1 := Lib.hid ((Blk.new' (g := w.heap.size + 1 + 1) ((w.alloc (.cells #[.int .i64 h, .int .i64 f, .slice A n c] 25)).alloc (.cells #[.int .i64 who] 3)) 25 #[.int .i64 0, .int .i64 0, .slice none 0 0] (by simp)).below hb1 (by simp))
  have HB1 : Hid (Below w.heap.size w w1) := Lib.hid (((((Below.refl _ _).alloc (Nat.le_refl _) _).alloc (by simp) _).alloc (by simp; omega) _).trans (hb1.mono (by simp; omega)))
  have HO1 := Lib.hid (own_mono hown1 (show w.heap.size ≤ _ by simp; omega))
  have hne : (Value.slice A1 n1 c1).ownBlock ≠ some (w.heap.size + 1 + 1) := own_blk_ne HO1.out HX1.out (by decide)
  have x1 := HX1.out.cell
  have y1 := HX1.out.frozen
  clear hown1 hb1
  go_wp2_with (fail)
  refine bodyPost_ret (v := .tuple #[.agg #[.int .i64 (freeP h f zs who).1.1, .int .i64 (freeP h f zs who).1.2.1, .slice A1 n1 c1], .bool (freeP h f zs who).2]) (by simp [results, Tryd.results16, go_sem, x1]) rfl ⟨⟨A1, n1, c1, rfl, ?_⟩, ?_⟩
  · exact ownsRow_setCell_other (ownsRow_setCell_other (ownsRow_setCell_other HO1.out hne _) hne _) hne _
  · exact ((HB1.out.setCell (by simp; omega) _).setCell (by simp; omega) _).setCell (by simp; omega) _
end Go.Proofs.YtohbmkppfbbngaaDoor
