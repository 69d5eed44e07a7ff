/-
  What is proved: the contract of spec.l92Lock, which draws a lock: it returns some lock with small numbers and a short line of its own; of what was there only the reader has changed. Condition: the reader is one.
-/
import Derived.Test.YtohbmkppfbbngaaDoorSpecFreeH
import Derived.Test.YtohbmkppfbbngaaDoorPick
import Derived.Deep.RegionWith
import Derived.Deep.DeepCutAuto
import Derived.OneCell
import Derived.IntWalk
import Derived.Deep.RegionLaw
namespace Go.Proofs.YtohbmkppfbbngaaDoor
open Go.RowKit

/-- A lock with small numbers and a short line. -/
def DL (h f : Int) (zs : List Int) : Prop := -1 ≤ h ∧ h ≤ 3 ∧ 0 ≤ f ∧ f ≤ 99 ∧ zs.length ≤ 5
theorem dl_ask (h f who : Int) (zs : List Int) : DL (askP h f zs who).1.1 (askP h f zs who).1.2.1 (askP h f zs who).1.2.2 := by
  unfold askP
  split
  · rename_i hv
    have h1 := lvB_nums hv.1
    have h2 := lvB_len hv.1
    split
    · dsimp only; exact ⟨h1.1, h1.2.1, h1.2.2.1, h1.2.2.2, by omega⟩
    · rename_i hn
      have hf : f + zs.length < 99 := by
        have := fun e => hn (.inr (.inr e))
        omega
      split
      · dsimp only; exact ⟨h1.1, h1.2.1, h1.2.2.1, h1.2.2.2, by simp; omega⟩
      · dsimp only; exact ⟨by omega, hv.2.2, by omega, by omega, by omega⟩
  · dsimp only; exact ⟨by omega, by omega, by omega, by omega, by simp⟩
theorem dl_free (h f who : Int) (zs : List Int) : DL (freeP h f zs who).1.1 (freeP h f zs who).1.2.1 (freeP h f zs who).1.2.2 := by
  unfold freeP
  split
  · rename_i hv
    have h1 := lvB_nums hv.1
    have h2 := lvB_len hv.1
    have h3 := lvB_LV hv.1
    split
    · split
      · rename_i hz
        cases zs with
        | nil => exact absurd rfl hz.1
        | cons z r =>
          have := h3.2.2.2.2.2.2.1 z List.mem_cons_self
          simp only [List.length_cons] at h2
          dsimp only [List.headD_cons, List.tail_cons]
          exact ⟨by omega, by omega, by omega, by omega, by omega⟩
      · dsimp only; exact ⟨by omega, by omega, h1.2.2.1, h1.2.2.2, by omega⟩
    · dsimp only; exact ⟨h1.1, h1.2.1, h1.2.2.1, h1.2.2.2, Nat.le_trans (List.length_filter_le _ _) (by omega)⟩
  · dsimp only; exact ⟨by omega, by omega, by omega, by omega, by simp⟩

/-- Some lock with small numbers, its line of the call's own, and a Bool. -/
def SomeLock (w : World) (e : Ending) (w' : World) : Prop :=
  ∃ h f zs b A c, e = .returned (.tuple #[.agg #[.int .i64 h, .int .i64 f, .slice A zs.length c], .bool b]) ∧ w'.ownsRow w.heap.size 3 1 (.slice A zs.length c) zs.length (ints zs) ∧ DL h f zs ∧ Below w.heap.size w w'
theorem someLock_of {w w' : World} {r : (Int × Int × List Int) × Bool} {e : Ending} (h : RetLockOk w.heap.size r e w' ∧ Below w.heap.size w w') (hd : DL r.1.1 r.1.2.1 r.1.2.2) : SomeLock w e w' := by
  obtain ⟨⟨A, n, c, he, hown⟩, hb⟩ := h
  have hn : n = r.1.2.2.length := by
    have := hown.1
    rw [ints_len] at this
    omega
  subst hn
  exact ⟨_, _, _, _, A, c, he, hown, hd, hb⟩
theorem drawAsk_any (h f who : Int) (A : Option Addr) (n c B : Nat) (zs : List Int) (w : World) (hr : Reads w B 1 A n (ints zs)) (hB : B ≤ w.heap.size) (hn : n ≤ c) (hc : c ≤ maxLen) :
    Calls Tryd.prog 18 #[.agg #[.int .i64 h, .int .i64 f, .slice A n c], .int .i64 who] w (SomeLock w) :=
  (specAsk_any h f who A n c B zs w hr hB hn hc).mono fun _ _ hh => someLock_of hh (dl_ask h f who zs)
theorem drawFree_any (h f who : Int) (A : Option Addr) (n c B : Nat) (zs : List Int) (w : World) (hr : Reads w B 1 A n (ints zs)) (hB : B ≤ w.heap.size) (hn : n ≤ c) (hc : c ≤ maxLen) :
    Calls Tryd.prog 27 #[.agg #[.int .i64 h, .int .i64 f, .slice A n c], .int .i64 who] w (SomeLock w) :=
  (specFree_any h f who A n c B zs w hr hB hn hc).mono fun _ _ hh => someLock_of hh (dl_free h f who zs)

/-- The state of l92Lock's loop: b3 holds the lock, b2 the result's variable. -/
def LRel (w : World) (B g P b2 b3 : Nat) (wr : World) : Prop :=
  ∃ h f zs A c, Blk wr b3 25 #[.int .i64 h, .int .i64 f, .slice A zs.length c] ∧ wr.ownsRow w.heap.size 3 1 (.slice A zs.length c) zs.length (ints zs) ∧
    Blk wr b2 25 #[.int .i64 0, .int .i64 0, .slice none 0 0] ∧ Rd wr B g P ∧ w.grownBy wr (some g) ∧ DL h f zs

def DrawPost (w : World) (B g P : Nat) (e : Ending) (w' : World) : Prop :=
  ∃ h f zs A c, e = .returned (.agg #[.int .i64 h, .int .i64 f, .slice A zs.length c]) ∧ w'.ownsRow w.heap.size 3 1 (.slice A zs.length c) zs.length (ints zs) ∧
    Rd w' B g (P + 40) ∧ w.grownBy w' (some g) ∧ -2 ≤ h ∧ h ≤ 3 ∧ -1 ≤ f ∧ f ≤ 100 ∧ zs.length ≤ 6

theorem grown_more {a b c : World} {row : Option Nat} (h : a.grownBy b row) (k : b.grownBy c row) : a.grownBy c row :=
  ⟨k.os.trans h.os, k.tape.trans h.tape, k.output.trans h.output, Nat.le_trans h.size k.size, fun i hi hne => (k.block i (Nat.lt_of_lt_of_le hi h.size) hne).trans (h.block i hi hne)⟩
theorem grown_set {a c : World} {row : Option Nat} (h : a.grownBy c row) {p : Addr} (hp : a.heap.size ≤ p.block) (u : Value) : a.grownBy (c.setCell p u) row :=
  ⟨h.os, h.tape, h.output, by simpa [World.setCell] using h.size, fun i hi hne => (Below.heap_setCell c p u i (by omega)).trans (h.block i hi hne)⟩
theorem grown_alloc {a c : World} {row : Option Nat} (h : a.grownBy c row) (o : Obj) : a.grownBy (c.alloc o) row := grown_more h ⟨rfl, rfl, rfl, by simp, fun i hi _ => Below.heap_alloc c o i hi⟩
theorem grown_below {a c d : World} {row : Option Nat} (h : a.grownBy c row) (hb : Below c.heap.size c d) : a.grownBy d row := grown_more h ⟨hb.os, hb.tape, hb.output, hb.size, fun i hi _ => hb.block i hi⟩
theorem grown_own {a c d : World} {row row' : Option Nat} (h : a.grownBy c row) (k : c.grownBy d row') (hr : ∀ b, row' = some b → a.heap.size ≤ b) : a.grownBy d row :=
  ⟨k.os.trans h.os, k.tape.trans h.tape, k.output.trans h.output, Nat.le_trans h.size k.size, fun i hi hne => (k.block i (Nat.lt_of_lt_of_le hi h.size) (fun e => by have := hr i e.symm; omega)).trans (h.block i hi hne)⟩
theorem grown_drew {a c : World} {row : Option Nat} (h : a.grownBy c row) : a.grownBy c.drew row := ⟨h.os, h.tape, h.output, h.size, h.block⟩
theorem alloc_grown {a c : World} {o : Obj} {row : Option Nat} (k : (a.alloc o).grownBy c row) : a.grownBy c row := grown_more (World.grownBy_alloc a o row) k

set_option maxRecDepth 100000 in
set_option maxHeartbeats 2000000 in
theorem l92Lock_any (B g P : Nat) (w : World) (hr : Rd w B g P) (hP : P ≤ 900000) :
    Calls Tryd.prog 30 #[.pointer (some ⟨g, 0, none⟩)] w (DrawPost w B g P) := by
  have hg := hr.lt
  have HR := Lib.hid hr
  clear hr
  obtain ⟨i0, hi0, hz0', hza, hzb⟩ := info_parts int_info
  go_enter Tryd.func30, Tryd.ntmps30
  go_wp2_with (fail)
  refine (pick_any B g P 4 _ (HR.out.alloc _) (by omega) (by omega) (by omega)).mono ?_
  rintro e w1 ⟨m1, rfl, hm0, hm1, hrd1, hg1, hs1⟩
  have HX1 := Lib.hid ((Blk.new w 25 #[.int .i64 0, .int .i64 0, .slice none 0 0]).grown hg1 (by simp; omega))
  have HG1 : Hid (w.grownBy w1 (some g)) := Lib.hid (alloc_grown hg1)
  have HR1 := Lib.hid hrd1
  have hz1 : w1.heap.size = w.heap.size + 1 := by simpa using hs1
  clear hrd1 hg1 hs1
  go_wp2_with (fail)
  refine (pick_any B g (P + 1) 12 _ (by exact (HR1.out.alloc _).alloc _) (by omega) (by omega) (by omega)).mono ?_
  rintro e w2 ⟨m2, rfl, hm20, hm21, hrd2, hg2, hs2⟩
  have HB2 := Lib.hid ((Blk.new' (g := w.heap.size + 1 + 1) (w1.alloc (.cells #[] 3)) 25 #[.int .i64 (-1), .int .i64 m1, .slice (some ⟨w.heap.size + 1, 0, none⟩) 0 0] (by simp; omega)).grown hg2 (by simp; omega))
  have HX2 := Lib.hid (((HX1.out.alloc (.cells #[] 3)).alloc (.cells #[.int .i64 (-1), .int .i64 m1, .slice (some ⟨w.heap.size + 1, 0, none⟩) 0 0] 25)).grown hg2 (by simp; omega))
  have HO2 : Hid (w2.ownsRow w.heap.size 3 1 (.slice (some ⟨w.heap.size + 1, 0, none⟩) 0 0) 0 (ints [])) :=
    Lib.hid ((World.ownsRow.alloc (own_lit (g := w.heap.size + 1) (n := 0) (xs := []) w1 (by omega) (by omega) rfl (by unfold maxLen; omega)) _).kept hg2 (.inr (by simp [Value.ownBlock]; omega)))
  have HG2 : Hid (w.grownBy w2 (some g)) := Lib.hid (grown_more HG1.out (grown_more (World.grownBy_alloc w1 _ _) (alloc_grown hg2)))
  have HR2 := Lib.hid hrd2
  have hz2 : w2.heap.size = w.heap.size + 1 + 1 + 1 := by simpa [hz1] using hs2
  have k2 := HB2.out.cell
  have f2 := HB2.out.frozen
  clear hrd2 hg2 hs2 HX1 HG1 HR1
  go_upto_if 12 with (fail)
  go_cut [] (fun wx => LRel w B g (P + 3) w.heap.size (w.heap.size + 1 + 1) wx)
  case first =>
    by_cases he : m2 = 0
    · have tb : (m2 == 0) = true := by simp [he]
      clear he
      go_wp2_with (fail)
      refine (pick_any B g (P + 1 + 1) 5 _ (by exact HR2.out) (by omega) (by omega) (by omega)).mono ?_
      rintro e w3 ⟨m3, rfl, hm30, hm31, hrd3, hg3, hs3⟩
      have HB3 := Lib.hid (HB2.out.grown hg3 (by simp; omega))
      have HX3 := Lib.hid (HX2.out.grown hg3 (by simp; omega))
      have HO3 := Lib.hid (HO2.out.kept hg3 (.inr (by simp [Value.ownBlock]; omega)))
      have HG3 := Lib.hid (grown_more HG2.out hg3)
      have HR3 := Lib.hid hrd3
      have hz3 : w3.heap.size = w.heap.size + 1 + 1 + 1 := by simpa [hz2] using hs3
      have k3 := HB3.out.cell
      have f3 := HB3.out.frozen
      clear hrd3 hg3 hs3 k2 f2
      go_wp2_with (fail)
      go_meet
      have hne3 : (Value.slice (some ⟨w.heap.size + 1, 0, none⟩) 0 0).ownBlock ≠ some (w.heap.size + 1 + 1) := by simp [Value.ownBlock]
      refine ⟨-1, 95 + m3, [], _, _, HB3.out.set_ 1 _, ownsRow_setCell_other HO3.out hne3 _, HX3.out.far (by simp; omega) _, HR3.out.setCell (by simp; omega) _, ?_, ⟨by omega, by omega, by omega, by omega, by simp⟩⟩
      exact grown_set HG3.out (by simp; omega) _
    · have tb : (m2 == 0) = false := by simp [he]
      clear he
      go_wp2_with (fail)
      go_meet
      exact ⟨-1, m1, [], _, _, HB2.out, HO2.out, HX2.out, HR2.out.more (by omega), HG2.out, ⟨by omega, by omega, by omega, by omega, by simp⟩⟩
  case rest =>
    clear HB2 HX2 HO2 HG2 HR2 hz2 k2 f2 HR
    go_wp2_with (fail)
    go_loopw [4] (fun i wr => ∃ k : Nat, k ≤ 8 ∧ i = .int .i64 k ∧ LRel w B g (P + 3 + 3 * k) w.heap.size (w.heap.size + 1 + 1) wr) (fun i _ => 9 - (intOf i).toNat)
    case atStart => exact ⟨0, by omega, rfl, by simpa using hcut⟩
    case round =>
      clear hcut
      obtain ⟨k, hk, rfl, h, f, zs, A, c, HBr, HOr, HXr, HRr, HGr, hdl⟩ := hrel
      have hzr := HBr.lt
      have HB := Lib.hid HBr
      have HO := Lib.hid HOr
      have HX := Lib.hid HXr
      have HR := Lib.hid HRr
      have HG := Lib.hid HGr
      have HD := Lib.hid hdl
      clear HBr HOr HXr HRr HGr hdl
      go_wp2_with (fail)
      refine (pick_any B g (P + 3 + 3 * k) 9 _ (by exact HR.out) (by omega) (by omega) (by omega)).mono ?_
      rintro e w3 ⟨m3, rfl, hm30, hm31, hrd3, hg3, hs3⟩
      have HB3 := Lib.hid (HB.out.grown hg3 (by simp; omega))
      have HX3 := Lib.hid (HX.out.grown hg3 (by simp; omega))
      have HO3 := Lib.hid (HO.out.kept hg3 (.inr (fun e => by have := (World.ownsRow.lt HO.out _ e).1; omega)))
      have HG3 := Lib.hid (grown_more HG.out hg3)
      have HR3 := Lib.hid hrd3
      have hz3 := HB3.out.lt
      have k3 := HB3.out.cell
      have f3 := HB3.out.frozen
      clear hrd3 hg3 hs3 HB HX HO HG HR hzr
      by_cases hlt : (k : Int) < m3
      · go_wp2_with (fail)
        refine (pick_any B g (P + 3 + 3 * k + 1) 3 _ (by exact HR3.out.alloc _) (by omega) (by omega) (by omega)).mono ?_
        rintro e w4 ⟨m4, rfl, hm40, hm41, hrd4, hg4, hs4⟩
        have HB4 := Lib.hid ((HB3.out.alloc (.cells #[.int .i64 h, .int .i64 f, .slice A zs.length c] 25)).grown hg4 (by simp; omega))
        have HX4 := Lib.hid ((HX3.out.alloc (.cells #[.int .i64 h, .int .i64 f, .slice A zs.length c] 25)).grown hg4 (by simp; omega))
        have HN4 := Lib.hid ((Blk.new w3 25 #[.int .i64 h, .int .i64 f, .slice A zs.length c]).grown hg4 (by simp; omega))
        have HO4 := Lib.hid ((World.ownsRow.alloc HO3.out (.cells #[.int .i64 h, .int .i64 f, .slice A zs.length c] 25)).kept hg4 (.inr (fun e => by have := (World.ownsRow.lt HO3.out _ e).1; omega)))
        have HG4 := Lib.hid (grown_more HG3.out (alloc_grown hg4))
        have HR4 := Lib.hid hrd4
        have hz4 := HB4.out.lt
        have hy4 := HN4.out.lt
        have k4 := HB4.out.cell
        have f4 := HB4.out.frozen
        have n4 := HN4.out.cell
        have nf4 := HN4.out.frozen
        clear hrd4 hg4 hs4 HB3 HX3 HO3 HG3 HR3 k3 f3
        by_cases hp : 0 < m4
        · go_wp2_with (fail)
          go_region_with (first
            | (go_at_call 46
               refine (pick_any B g (P + 3 + 3 * k + 1 + 1) 4 _ (by exact HR4.out) (by omega) (by omega) (by omega)).mono ?_
               rintro e w5 ⟨m5, rfl, hm50, hm51, hrd5, hg5, hs5⟩
               have HB5 := Lib.hid (Blk.grown (HB4.out.drew) hg5 (by simp; omega))
               have HX5 := Lib.hid (Blk.grown (HX4.out.drew) hg5 (by simp; omega))
               have HN5 := Lib.hid (Blk.grown (HN4.out.drew) hg5 (by simp; omega))
               have HO5 := Lib.hid (World.ownsRow.kept (World.ownsRow.drew HO4.out) hg5 (.inr (fun e => by have := (World.ownsRow.lt HO4.out _ e).1; omega)))
               have HG5 := Lib.hid (grown_more (grown_drew HG4.out) hg5)
               have HR5 := Lib.hid hrd5
               have hz5 := HB5.out.lt
               have hy5 := HN5.out.lt
               have k5 := HB5.out.cell
               clear hrd5 hg5 hs5)
            | (go_at_call 18
               refine (drawAsk_any h f m5 A zs.length c _ zs _ (by exact Reads.of_own HO5.out) (Nat.le_refl _) (own_caps HO5.out).1 (own_caps HO5.out).2).mono ?_
               rintro e w6 ⟨h6, f6, zs6, b6, A6, c6, rfl, hown6, hdl6, hb6⟩
               have HB6 := Lib.hid (HB5.out.below hb6 (by omega))
               have HX6 := Lib.hid (HX5.out.below hb6 (by omega))
               have HN6 := Lib.hid (HN5.out.below hb6 (by omega))
               have HO6 := Lib.hid (own_mono hown6 (show w.heap.size ≤ _ by omega))
               have HG6 := Lib.hid (grown_below HG5.out hb6)
               have HR6 := Lib.hid (HR5.out.keep (hb6.mono (by omega)))
               have HD6 := Lib.hid hdl6
               have k6 := HB6.out.cell
               have f6' := HB6.out.frozen
               have n6 := HN6.out.cell
               have nf6 := HN6.out.frozen
               have hne6 := own_blk_ne hown6 HB6.out (by decide)
               have hne7 := own_blk_ne hown6 HN6.out (by decide)
               have hne8 := own_blk_ne hown6 HX6.out (by decide)
               clear hown6 hb6 hdl6))
          all_goals
            go_wp2
            go_roundw
            case rel =>
              refine ⟨k + 1, by omega, by go_num, h6, f6, zs6, A6, c6, ?_, ?_, ?_, ?_, ?_, HD6.out⟩
              · exact (((((HB6.out.far (by simp; omega) _).far (by simp; omega) _).far (by simp; omega) _).set_ 0 _).set_ 1 _).set_ 2 _
              · exact ownsRow_setCell_other (ownsRow_setCell_other (ownsRow_setCell_other (ownsRow_setCell_other (ownsRow_setCell_other (ownsRow_setCell_other HO6.out hne7 _) hne7 _) hne7 _) hne6 _) hne6 _) hne6 _
              · exact (((((HX6.out.far (by simp; omega) _).far (by simp; omega) _).far (by simp; omega) _).far (by simp; omega) _).far (by simp; omega) _).far (by simp; omega) _
              · exact Rd.more ((((((HR6.out.setCell (by simp; omega) _).setCell (by simp; omega) _).setCell (by simp; omega) _).setCell (by simp; omega) _).setCell (by simp; omega) _).setCell (by simp; omega) _) (by omega)
              · exact grown_set (grown_set (grown_set (grown_set (grown_set (grown_set HG6.out (by simp; omega) _) (by simp; omega) _) (by simp; omega) _) (by simp; omega) _) (by simp; omega) _) (by simp; omega) _
            case measure => simp [intOf]; omega
        · go_wp2_with (fail)
          go_region_with (first
            | (go_at_call 46
               refine (pick_any B g (P + 3 + 3 * k + 1 + 1) 4 _ (by exact HR4.out) (by omega) (by omega) (by omega)).mono ?_
               rintro e w5 ⟨m5, rfl, hm50, hm51, hrd5, hg5, hs5⟩
               have HB5 := Lib.hid (Blk.grown (HB4.out.drew) hg5 (by simp; omega))
               have HX5 := Lib.hid (Blk.grown (HX4.out.drew) hg5 (by simp; omega))
               have HN5 := Lib.hid (Blk.grown (HN4.out.drew) hg5 (by simp; omega))
               have HO5 := Lib.hid (World.ownsRow.kept (World.ownsRow.drew HO4.out) hg5 (.inr (fun e => by have := (World.ownsRow.lt HO4.out _ e).1; omega)))
               have HG5 := Lib.hid (grown_more (grown_drew HG4.out) hg5)
               have HR5 := Lib.hid hrd5
               have hz5 := HB5.out.lt
               have hy5 := HN5.out.lt
               have k5 := HB5.out.cell
               clear hrd5 hg5 hs5)
            | (go_at_call 27
               refine (drawFree_any h f m5 A zs.length c _ zs _ (by exact Reads.of_own HO5.out) (Nat.le_refl _) (own_caps HO5.out).1 (own_caps HO5.out).2).mono ?_
               rintro e w6 ⟨h6, f6, zs6, b6, A6, c6, rfl, hown6, hdl6, hb6⟩
               have HB6 := Lib.hid (HB5.out.below hb6 (by omega))
               have HX6 := Lib.hid (HX5.out.below hb6 (by omega))
               have HN6 := Lib.hid (HN5.out.below hb6 (by omega))
               have HO6 := Lib.hid (own_mono hown6 (show w.heap.size ≤ _ by omega))
               have HG6 := Lib.hid (grown_below HG5.out hb6)
               have HR6 := Lib.hid (HR5.out.keep (hb6.mono (by omega)))
               have HD6 := Lib.hid hdl6
               have k6 := HB6.out.cell
               have f6' := HB6.out.frozen
               have n6 := HN6.out.cell
               have nf6 := HN6.out.frozen
               have hne6 := own_blk_ne hown6 HB6.out (by decide)
               have hne7 := own_blk_ne hown6 HN6.out (by decide)
               have hne8 := own_blk_ne hown6 HX6.out (by decide)
               clear hown6 hb6 hdl6))
          all_goals
            go_wp2
            go_roundw
            case rel =>
              refine ⟨k + 1, by omega, by go_num, h6, f6, zs6, A6, c6, ?_, ?_, ?_, ?_, ?_, HD6.out⟩
              · exact (((((HB6.out.far (by simp; omega) _).far (by simp; omega) _).far (by simp; omega) _).set_ 0 _).set_ 1 _).set_ 2 _
              · exact ownsRow_setCell_other (ownsRow_setCell_other (ownsRow_setCell_other (ownsRow_setCell_other (ownsRow_setCell_other (ownsRow_setCell_other HO6.out hne7 _) hne7 _) hne7 _) hne6 _) hne6 _) hne6 _
              · exact (((((HX6.out.far (by simp; omega) _).far (by simp; omega) _).far (by simp; omega) _).far (by simp; omega) _).far (by simp; omega) _).far (by simp; omega) _
              · exact Rd.more ((((((HR6.out.setCell (by simp; omega) _).setCell (by simp; omega) _).setCell (by simp; omega) _).setCell (by simp; omega) _).setCell (by simp; omega) _).setCell (by simp; omega) _) (by omega)
              · exact grown_set (grown_set (grown_set (grown_set (grown_set (grown_set HG6.out (by simp; omega) _) (by simp; omega) _) (by simp; omega) _) (by simp; omega) _) (by simp; omega) _) (by simp; omega) _
            case measure => simp [intOf]; omega
      · have hlt' : ¬ (k : Int) < m3 := hlt
        go_wp2_with (fail)
        refine (pick_any B g (P + 3 + 3 * k + 1) 20 _ (by exact HR3.out) (by omega) (by omega) (by omega)).mono ?_
        rintro e w4 ⟨m4, rfl, hm40, hm41, hrd4, hg4, hs4⟩
        have HB4 := Lib.hid (HB3.out.grown hg4 (by simp; omega))
        have HX4 := Lib.hid (HX3.out.grown hg4 (by simp; omega))
        have HO4 := Lib.hid (HO3.out.kept hg4 (.inr (fun e => by have := (World.ownsRow.lt HO3.out _ e).1; omega)))
        have HG4 := Lib.hid (grown_more HG3.out hg4)
        have HR4 := Lib.hid (hrd4.more (show P + 3 + 3 * k + 1 + 1 ≤ P + 29 by omega))
        have hz4 := HB4.out.lt
        have k4 := HB4.out.cell
        have f4 := HB4.out.frozen
        have x4 := HX4.out.cell
        have y4 := HX4.out.frozen
        have hne4 : (Value.slice A zs.length c).ownBlock ≠ some (w.heap.size + 1 + 1) := own_blk_ne HO4.out HB4.out (by decide)
        have hne5 : (Value.slice A zs.length c).ownBlock ≠ some w.heap.size := own_blk_ne HO4.out HX4.out (by decide)
        clear hrd4 hg4 hs4 HB3 HX3 HO3 HG3 HR3 k3 f3 hlt hlt'
        by_cases e0 : m4 = 0
        · have t0 : (m4 == 0) = true := by simp [e0]
          clear e0
          go_wp2_with (fail)
          refine (pick_any B g (P + 29) 6 _ (by exact HR4.out) (by omega) (by omega) (by omega)).mono ?_
          rintro e w5 ⟨m5, rfl, hm50, hm51, hrd5, hg5, hs5⟩
          have HB5 := Lib.hid (Blk.grown (HB4.out) hg5 (by simp; omega))
          have HX5 := Lib.hid (Blk.grown (HX4.out) hg5 (by simp; omega))
          have HO5 := Lib.hid (World.ownsRow.kept (HO4.out) hg5 (.inr (fun e => by have := (World.ownsRow.lt HO4.out _ e).1; omega)))
          have HG5 := Lib.hid (grown_more (HG4.out) hg5)
          have HR5 := Lib.hid hrd5
          have hz5 := HB5.out.lt
          have k5 := HB5.out.cell
          have f5 := HB5.out.frozen
          have x5 := HX5.out.cell
          have y5 := HX5.out.frozen
          clear hrd5 hg5 hs5 k4 f4 x4 y4
          go_wp2_with (fail)
          refine bodyPost_ret (v := .agg #[.int .i64 (m5 - 2), .int .i64 f, .slice A zs.length c]) (by simp [results, Tryd.results30, go_sem, x5]) rfl ?_
          have hd := HD.out
          refine ⟨(m5 - 2), f, zs, A, c, rfl, ownsRow_setCell_other (ownsRow_setCell_other (ownsRow_setCell_other (ownsRow_setCell_other HO5.out hne4 _) hne5 _) hne5 _) hne5 _, ?_, ?_, by have := hd.1; omega, by have := hd.2.1; omega, by have := hd.2.2.1; omega, by have := hd.2.2.2.1; omega, by have := hd.2.2.2.2; omega⟩
          · exact Rd.more ((((HR5.out.setCell (by simp; omega) _).setCell (by simp; omega) _).setCell (by simp; omega) _).setCell (by simp; omega) _) (by omega)
          · exact grown_set (grown_set (grown_set (grown_set HG5.out (by simp; omega) _) (by simp) _) (by simp) _) (by simp) _
        · have t0 : (m4 == 0) = false := by simp [e0]
          by_cases e1 : m4 = 1
          · have t1 : (m4 == 1) = true := by simp [e1]
            clear e0 e1
            go_wp2_with (fail)
            refine (pick_any B g (P + 29) 4 _ (by exact HR4.out.alloc _) (by omega) (by omega) (by omega)).mono ?_
            rintro e w5 ⟨m5, rfl, hm50, hm51, hrd5, hg5, hs5⟩
            have HB5 := Lib.hid (Blk.grown (HB4.out.alloc (.cells #[.int .i64 (-1), .int .i64 0, .int .i64 99, .int .i64 100] 3)) hg5 (by simp; omega))
            have HX5 := Lib.hid (Blk.grown (HX4.out.alloc (.cells #[.int .i64 (-1), .int .i64 0, .int .i64 99, .int .i64 100] 3)) hg5 (by simp; omega))
            have HO5 := Lib.hid (World.ownsRow.kept (World.ownsRow.alloc HO4.out (.cells #[.int .i64 (-1), .int .i64 0, .int .i64 99, .int .i64 100] 3)) hg5 (.inr (fun e => by have := (World.ownsRow.lt HO4.out _ e).1; omega)))
            have HG5 := Lib.hid (grown_more (grown_alloc HG4.out (.cells #[.int .i64 (-1), .int .i64 0, .int .i64 99, .int .i64 100] 3)) hg5)
            have HR5 := Lib.hid hrd5
            have hz5 := HB5.out.lt
            have k5 := HB5.out.cell
            have f5 := HB5.out.frozen
            have x5 := HX5.out.cell
            have y5 := HX5.out.frozen
            obtain ⟨q, rfl⟩ := Int.eq_ofNat_of_zero_le hm50
            obtain ⟨v, hv, hv0, hv1⟩ : ∃ v : Int, w5.cell? ⟨w4.heap.size, q, none⟩ = some (.int .i64 v) ∧ -1 ≤ v ∧ v ≤ 100 := by
              have hb := ((Blk.new w4 3 #[.int .i64 (-1), .int .i64 0, .int .i64 99, .int .i64 100]).grown hg5 (by simp; omega)).cell q
              rw [hb]
              have hq : q < 4 := by omega
              rcases q with _ | _ | _ | _ | q
              · exact ⟨-1, rfl, by omega, by omega⟩
              · exact ⟨0, rfl, by omega, by omega⟩
              · exact ⟨99, rfl, by omega, by omega⟩
              · exact ⟨100, rfl, by omega, by omega⟩
              · omega
            clear hrd5 hg5 hs5 k4 f4 x4 y4
            go_wp2_with (fail)
            refine bodyPost_ret (v := .agg #[.int .i64 h, .int .i64 v, .slice A zs.length c]) (by simp [results, Tryd.results30, go_sem, x5]) rfl ?_
            have hd := HD.out
            refine ⟨h, v, zs, A, c, rfl, ownsRow_setCell_other (ownsRow_setCell_other (ownsRow_setCell_other (ownsRow_setCell_other HO5.out hne4 _) hne5 _) hne5 _) hne5 _, ?_, ?_, by have := hd.1; omega, by have := hd.2.1; omega, by have := hd.2.2.1; omega, by have := hd.2.2.2.1; omega, by have := hd.2.2.2.2; omega⟩
            · exact Rd.more ((((HR5.out.setCell (by simp; omega) _).setCell (by simp; omega) _).setCell (by simp; omega) _).setCell (by simp; omega) _) (by omega)
            · exact grown_set (grown_set (grown_set (grown_set HG5.out (by simp; omega) _) (by simp) _) (by simp) _) (by simp) _
          · have t1 : (m4 == 1) = false := by simp [e1]
            by_cases e2 : m4 = 2
            · have t2 : (m4 == 2) = true := by simp [e2]
              clear e0 e1 e2
              have hlen : zs.length ≤ 5 := HD.out.2.2.2.2
              go_wp2_with (fail)
              go_region_law (first
                | (refine step_append_any _ rfl (.tmp 61) (.tmp 65) _ rfl w.heap.size 3 i0 _ 1 8 Tryd.underlying23 hi0 hz0' (by assumption) hzb rfl (by omega) (.slice A zs.length c) zs.length (ints zs) rfl
                     (by exact World.ownsRow.alloc HO5.out _) (w5.heap.size + 1) (some ⟨w5.heap.size, 0, none⟩) 1 1 (ints [m5 - 1]) rfl (by exact reads_new w5 rfl rfl) ints_one (by unfold maxLen; omega) (by omega) (by simp; omega) ?_
                   intro v6 w6 hown6 hg6 hat6
                   rw [ints_append] at hown6
                   obtain ⟨A6, c6, rfl⟩ := own_slice hown6
                   have hnb5 : (Value.slice A zs.length c).ownBlock ≠ some (w.heap.size + 1 + 1) := own_blk_ne HO5.out HB5.out (by decide)
                   have hnx5 : (Value.slice A zs.length c).ownBlock ≠ some w.heap.size := own_blk_ne HO5.out HX5.out (by decide)
                   have HB6 := Lib.hid ((HB5.out.alloc (.cells #[.int .i64 (m5 - 1)] 3)).grown hg6 hnb5.symm)
                   have HX6 := Lib.hid ((HX5.out.alloc (.cells #[.int .i64 (m5 - 1)] 3)).grown hg6 hnx5.symm)
                   have HG6 : Hid (w.grownBy w6 (some g)) := Lib.hid (grown_own (grown_alloc HG5.out (.cells #[.int .i64 (m5 - 1)] 3)) hg6 (fun k hk => (World.ownsRow.lt HO5.out k hk).1))
                   have HR6 := Lib.hid ((HR5.out.alloc (.cells #[.int .i64 (m5 - 1)] 3)).grown hg6 (fun k hk => by have := (World.ownsRow.lt HO5.out k hk).1; omega))
                   have hn6 : (Value.slice A6 (zs.length + 1) c6).ownBlock ≠ some (w.heap.size + 1 + 1) := own_blk_ne hown6 HB6.out (by decide)
                   have hn7 : (Value.slice A6 (zs.length + 1) c6).ownBlock ≠ some w.heap.size := own_blk_ne hown6 HX6.out (by decide)
                   have HO6 := Lib.hid hown6
                   have k6 := HB6.out.cell
                   have f6 := HB6.out.frozen
                   have x6 := HX6.out.cell
                   have y6 := HX6.out.frozen
                   clear hown6 hg6 hat6)
                | (go_simp
                   go_at_call 46
                   refine (pick_any B g (P + 29) 6 _ (by exact HR4.out) (by omega) (by omega) (by omega)).mono ?_
                   rintro e w5 ⟨m5, rfl, hm50, hm51, hrd5, hg5, hs5⟩
                   have HB5 := Lib.hid (Blk.grown (HB4.out.drew) hg5 (by simp; omega))
                   have HX5 := Lib.hid (Blk.grown (HX4.out.drew) hg5 (by simp; omega))
                   have HO5 := Lib.hid (World.ownsRow.kept (World.ownsRow.drew HO4.out) hg5 (.inr (fun e => by have := (World.ownsRow.lt HO4.out _ e).1; omega)))
                   have HG5 := Lib.hid (grown_more (grown_drew HG4.out) hg5)
                   have HR5 := Lib.hid hrd5
                   have hz5 := HB5.out.lt
                   have k5 := HB5.out.cell
                   have f5 := HB5.out.frozen
                   have x5 := HX5.out.cell
                   have y5 := HX5.out.frozen
                   have hwr : IntKind.i64.wrap (m5 - 1) = m5 - 1 := IntWalk.i64_in _ (by omega)
                   clear hrd5 hg5 hs5))
              all_goals
                go_wp2
                refine bodyPost_ret (v := .agg #[.int .i64 h, .int .i64 f, .slice A6 (zs.length + 1) c6]) (by simp [results, Tryd.results30, go_sem, x6]) rfl ?_
                have hd := HD.out
                have hl6 : (zs ++ [m5 - 1]).length = zs.length + 1 := by simp
                refine ⟨h, f, zs ++ [m5 - 1], A6, c6, by rw [hl6], ?_, ?_, ?_, by have := hd.1; omega, by have := hd.2.1; omega, by have := hd.2.2.1; omega, by have := hd.2.2.2.1; omega, by have := hd.2.2.2.2; omega⟩
                · rw [hl6]; exact ownsRow_setCell_other (ownsRow_setCell_other (ownsRow_setCell_other (ownsRow_setCell_other HO6.out hn6 _) hn7 _) hn7 _) hn7 _
                · exact Rd.more ((((HR6.out.setCell (by simp; omega) _).setCell (by simp; omega) _).setCell (by simp; omega) _).setCell (by simp; omega) _) (by omega)
                · exact grown_set (grown_set (grown_set (grown_set HG6.out (by simp; omega) _) (by simp) _) (by simp) _) (by simp) _
            · have t2 : (m4 == 2) = false := by simp [e2]
              clear e0 e1 e2
              go_wp2_with (fail)
              refine bodyPost_ret (v := .agg #[.int .i64 h, .int .i64 f, .slice A zs.length c]) (by simp [results, Tryd.results30, go_sem, x4]) rfl ?_
              have hd := HD.out
              refine ⟨h, f, zs, A, c, rfl, ownsRow_setCell_other (ownsRow_setCell_other (ownsRow_setCell_other HO4.out hne5 _) hne5 _) hne5 _, ?_, ?_, by have := hd.1; omega, hd.2.1, by have := hd.2.2.1; omega, by have := hd.2.2.2.1; omega, by have := hd.2.2.2.2; omega⟩
              · exact Rd.more (((HR4.out.setCell (by simp; omega) _).setCell (by simp; omega) _).setCell (by simp; omega) _) (by omega)
              · exact grown_set (grown_set (grown_set HG4.out (by simp) _) (by simp) _) (by simp) _
end Go.Proofs.YtohbmkppfbbngaaDoor
