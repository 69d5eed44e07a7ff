/-
  What is proved: the contracts of impl.changeLock at any function value whose contract is known: what lock it returns, in memory of its own, and whether it succeeds. Condition: the lock's line reads as a list of at most 2^20 numbers, and the variable errors.errorType holds the handle of the type error.
-/
import Derived.Test.YtohbmkppfbbngaaDoorFreeFn
import Derived.Test.YtohbmkppfbbngaaDoorAs
import Derived.Test.YtohbmkppfbbngaaDoorDraw
import Derived.Deep.RegionWith
import Derived.Deep.RegionHeld3
import Derived.Deep.DeepCutAuto
namespace Go.Proofs.YtohbmkppfbbngaaDoor
open Go.RowKit

theorem own_below {w w' : World} {b : Nat} {e : TypeId} {size : Nat} {v : Value} {n : Nat} {xs : List Value} (h : w.ownsRow b e size v n xs) (hb : Below w.heap.size w w') : w'.ownsRow b e size v n xs := by
  obtain ⟨h1, h2⟩ := h
  refine ⟨h1, ?_⟩
  rcases h2 with h2 | ⟨g, cap, cur, hv, hg, hh, r⟩
  · exact .inl h2
  · exact .inr ⟨g, cap, cur, hv, hg, by rw [hb.block g (Array.getElem?_eq_some_iff.1 hh).1]; exact hh, r⟩

/-- The variable errors.errorType holds the handle of the type error. -/
def Held (w : World) : Prop := w.cell? ⟨0, 0, none⟩ = some (.iface 76 (.agg #[.pointer (some ⟨1, 49, none⟩)]))
theorem Held.lt {w : World} (h : Held w) : 0 < w.heap.size := by
  rcases Nat.eq_zero_or_pos w.heap.size with h0 | h1
  · unfold Held at h; simp [World.cell?, h0] at h
  · exact h1
theorem Held.below {w w' : World} (h : Held w) (hb : Below w.heap.size w w') : Held w' := (hb.cell (p := ⟨0, 0, none⟩) h.lt).trans h

/-- errors.As of a *lockError at a box: the box is set; nothing else that was there has changed. -/
theorem as_box (e : Addr) (g : Nat) (v0 : Value) (w : World) (hg : Held w) (hk : Blk w g 51 #[v0]) :
    Calls Tryd.prog 47 #[.iface 51 (.pointer (some e)), .iface 61 (.pointer (some ⟨g, 0, none⟩))] w fun ev w' => ev = .returned (.bool true) ∧ Blk w' g 51 #[.pointer (some e)] ∧ w.grownBy w' (some g) :=
  (as_hit e ⟨g, 0, none⟩ v0 w hg (hk.cell 0) (hk.frozen 0)).mono fun _ _ hh => by
    obtain ⟨h1, rfl⟩ := hh
    refine ⟨h1, ((((hk.alloc _).alloc _).alloc _).alloc _).set_ 0 _, ?_⟩
    exact only_setCell (grown_alloc (grown_alloc (grown_alloc (grown_alloc (World.grownBy.refl w _) _) _) _) _) (.inl rfl) _
theorem below_box {w w' : World} {o : Obj} {g : Nat} (hg : g = w.heap.size) (h : (w.alloc o).grownBy w' (some g)) : Below w.heap.size w w' :=
  ((Below.refl _ _).alloc (Nat.le_refl _) o).grown h (by simp) (fun k hk => by injection hk with hk; omega)

/-- The state of changeLock ahead of its copy of the lock. (The size of the heap is said of the first such state alone.) -/
def PSt0 (W : World) (bw : Nat) (h f who : Int) (A : Option Addr) (n c B : Nat) (zs : List Int) (V : World) : Prop :=
  Blk V W.heap.size 25 #[.int .i64 h, .int .i64 f, .slice A n c] ∧ Blk V (W.heap.size + 1) 25 #[.int .i64 0, .int .i64 0, .slice none 0 0] ∧ Blk V (W.heap.size + 1 + 1) 53 #[.bool true] ∧
    Blk V bw 3 #[.int .i64 who] ∧ Reads V B 1 A n (ints zs) ∧ Below W.heap.size W V ∧ W.heap.size + 1 + 1 + 1 ≤ V.heap.size ∧ B ≤ W.heap.size ∧ bw < W.heap.size
theorem PSt0.below {W : World} {bw : Nat} {h f who : Int} {A : Option Addr} {n c B : Nat} {zs : List Int} {V V' : World} (s : PSt0 W bw h f who A n c B zs V) (hb : Below V.heap.size V V') : PSt0 W bw h f who A n c B zs V' := by
  obtain ⟨h1, h2, h3, h4, h5, h6, h7, h8, h9⟩ := s
  exact ⟨h1.below hb (by omega), h2.below hb (by omega), h3.below hb (by omega), h4.below hb (by omega), h5.below (hb.mono (by omega)), h6.trans (hb.mono (by omega)), Nat.le_trans h7 hb.size, h8, h9⟩
theorem pst_mk {W : World} {bw : Nat} {h f who : Int} {A : Option Addr} {n c B : Nat} {zs : List Int} (hr : Reads W B 1 A n (ints zs)) (hB : B ≤ W.heap.size) (hw : Blk W bw 3 #[.int .i64 who]) :
    PSt0 W bw h f who A n c B zs (((W.alloc (.cells #[.int .i64 h, .int .i64 f, .slice A n c] 25)).alloc (.cells #[.int .i64 0, .int .i64 0, .slice none 0 0] 25)).alloc (.cells #[.bool true] 53)) ∧
    (((W.alloc (.cells #[.int .i64 h, .int .i64 f, .slice A n c] 25)).alloc (.cells #[.int .i64 0, .int .i64 0, .slice none 0 0] 25)).alloc (.cells #[.bool true] 53)).heap.size = W.heap.size + 1 + 1 + 1 := by
  have hl := hw.lt
  refine ⟨⟨((Blk.new W _ _).alloc _).alloc _, (Blk.new' _ _ _ (by simp)).alloc _, Blk.new' _ _ _ (by simp), ((hw.alloc _).alloc _).alloc _, ((hr.alloc hB _).alloc (by simp; omega) _).alloc (by simp; omega) _,
    (((Below.refl _ _).alloc (Nat.le_refl _) _).alloc (by simp) _).alloc (by simp; omega) _, by simp, hB, hl⟩, by simp⟩

/-- The state of changeLock behind its copy of the lock: b9 holds the copy. -/
def CSt (W : World) (bw b9 : Nat) (h f who : Int) (A : Option Addr) (n c B : Nat) (zs : List Int) (A2 : Option Addr) (c2 : Nat) (wr : World) : Prop :=
  Blk wr b9 25 #[.int .i64 h, .int .i64 f, .slice A2 n c2] ∧ wr.ownsRow (W.heap.size + 1 + 1 + 1) 3 1 (.slice A2 n c2) n (ints zs) ∧ Blk wr W.heap.size 25 #[.int .i64 h, .int .i64 f, .slice A n c] ∧
    Blk wr (W.heap.size + 1) 25 #[.int .i64 0, .int .i64 0, .slice none 0 0] ∧ Blk wr (W.heap.size + 1 + 1) 53 #[.bool true] ∧ Blk wr bw 3 #[.int .i64 who] ∧ Reads wr B 1 A n (ints zs) ∧
    Below W.heap.size W wr ∧ W.heap.size + 1 + 1 + 1 ≤ b9

theorem PSt0.set_ {W : World} {bw : Nat} {h f who : Int} {A : Option Addr} {n c B : Nat} {zs : List Int} {V : World} (s : PSt0 W bw h f who A n c B zs V) {p : Addr} (hp : W.heap.size + 1 + 1 + 1 ≤ p.block) (u : Value) : PSt0 W bw h f who A n c B zs (V.setCell p u) := by
  obtain ⟨h1, h2, h3, h4, h5, h6, h7, h8, h9⟩ := s
  exact ⟨h1.far (by omega) _, h2.far (by omega) _, h3.far (by omega) _, h4.far (by omega) _, h5.setCell (by omega) _, h6.setCell (by omega) _, by simpa [World.setCell] using h7, h8, h9⟩
theorem PSt0.cst {W : World} {bw : Nat} {h f who : Int} {A : Option Addr} {n c B : Nat} {zs : List Int} {V : World} (s : PSt0 W bw h f who A n c B zs V) {b9 : Nat} {A2 : Option Addr} {c2 : Nat} (h9 : Blk V b9 25 #[.int .i64 h, .int .i64 f, .slice A2 n c2])
    (ho : V.ownsRow (W.heap.size + 1 + 1 + 1) 3 1 (.slice A2 n c2) n (ints zs)) (hb : W.heap.size + 1 + 1 + 1 ≤ b9) : CSt W bw b9 h f who A n c B zs A2 c2 V :=
  ⟨h9, ho, s.1, s.2.1, s.2.2.1, s.2.2.2.1, s.2.2.2.2.1, s.2.2.2.2.2.1, hb⟩

theorem CSt.below {W : World} {bw b9 : Nat} {h f who : Int} {A : Option Addr} {n c B : Nat} {zs : List Int} {A2 : Option Addr} {c2 : Nat} {wr w' : World} (s : CSt W bw b9 h f who A n c B zs A2 c2 wr) (hb : Below wr.heap.size wr w') (hB : B ≤ W.heap.size) : CSt W bw b9 h f who A n c B zs A2 c2 w' := by
  obtain ⟨h1, h2, h3, h4, h5, h6, h7, h8, h9⟩ := s
  have hs := h8.size
  exact ⟨h1.below hb h1.lt, own_below h2 hb, h3.below hb h3.lt, h4.below hb h4.lt, h5.below hb h5.lt, h6.below hb h6.lt, h7.below (hb.mono (by omega)), h8.trans (hb.mono hs), h9⟩

set_option maxRecDepth 100000 in
set_option maxHeartbeats 4000000 in
theorem change_bad (k : FuncId) (h f who : Int) (A : Option Addr) (n c B bw : Nat) (zs : List Int) (W : World) (hr : Reads W B 1 A n (ints zs)) (hB : B ≤ W.heap.size) (hn : n ≤ c) (hc : c ≤ maxLen) (hn2 : n ≤ 1048576)
    (hw : Blk W bw 3 #[.int .i64 who]) (hg : Held W) (hb : ¬ (lvB h f zs = true ∧ 0 ≤ who ∧ who ≤ 3)) :
    Calls Tryd.prog 36 #[.agg #[.int .i64 h, .int .i64 f, .slice A n c], .int .i64 who, .func (.func k) #[] #[.pointer (some ⟨bw, 0, none⟩)]] W fun e w' => RetLockOk W.heap.size ((0, 0, []), false) e w' ∧ Below W.heap.size W w' := by
  have HR := Lib.hid hr
  have HW := Lib.hid hw
  have HG := Lib.hid hg
  have HQ := Lib.hid hb
  have hbw := hw.lt
  clear hr hw hg hb
  go_enter Tryd.func36, Tryd.ntmps36
  go_upto_region 2 with (fail)
  go_cut [9] (fun s9 wx => ∃ (b9 : Nat) (A2 : Option Addr) (c2 : Nat), s9 = .pointer (some ⟨b9, 0, none⟩) ∧ CSt W bw b9 h f who A n c B zs A2 c2 wx)
  case first =>
    have SV : Hid (PSt0 W bw h f who A n c B zs (((W.alloc (.cells #[.int .i64 h, .int .i64 f, .slice A n c] 25)).alloc (.cells #[.int .i64 0, .int .i64 0, .slice none 0 0] 25)).alloc (.cells #[.bool true] 53))) :=
      Lib.hid (pst_mk HR.out hB HW.out).1
    have hs : (((W.alloc (.cells #[.int .i64 h, .int .i64 f, .slice A n c] 25)).alloc (.cells #[.int .i64 0, .int .i64 0, .slice none 0 0] 25)).alloc (.cells #[.bool true] 53)).heap.size = W.heap.size + 1 + 1 + 1 := by simp
    generalize ((W.alloc (.cells #[.int .i64 h, .int .i64 f, .slice A n c] 25)).alloc (.cells #[.int .i64 0, .int .i64 0, .slice none 0 0] 25)).alloc (.cells #[.bool true] 53) = V at SV hs ⊢
    have kV := SV.out.1.cell
    have hV0 : V.cell? ⟨W.heap.size, 0, none⟩ = some (.int .i64 h) := SV.out.1.cell 0
    have hV1 : V.cell? ⟨W.heap.size, 1, none⟩ = some (.int .i64 f) := SV.out.1.cell 1
    have hV2 : V.cell? ⟨W.heap.size, 2, none⟩ = some (.slice A n c) := SV.out.1.cell 2
    have hVl : W.heap.size < V.heap.size := SV.out.1.lt
    clear kV
    go_region_held3 (fun w' => w'.cell? ⟨W.heap.size, 0, none⟩ = some (.int .i64 h) ∧ w'.cell? ⟨W.heap.size, 1, none⟩ = some (.int .i64 f) ∧ w'.cell? ⟨W.heap.size, 2, none⟩ = some (.slice A n c)) (first | go_keep | (refine ⟨?_, ?_, ?_⟩ <;> (rw [World.cell?_setCell_other _ _ _ _ (by intro e; injection e with e1; omega), World.cell?_setCell_other _ _ _ _ (by intro e; injection e with e1; omega), World.cell?_setCell_other _ _ _ _ (by intro e; injection e with e1; omega)]; assumption))) (first
      | (go_at_call 38
         refine (clone_any A n c B zs _ (by first | exact SV.out.2.2.2.2.1.drew | exact (SV.out.2.2.2.2.1.alloc (by omega) _).drew) (by simp; omega) hn2).mono ?_
         rintro e w4 ⟨⟨A4, n4, c4, rfl, hown4⟩, hb4⟩
         have hn4 : n4 = n := by have h1 := hown4.1; rw [ints_len] at h1; have h2 := SV.out.2.2.2.2.1.len_ints; omega
         subst hn4
         have SW : Hid (PSt0 W bw h f who A n4 c B zs w4) := Lib.hid (by first | exact SV.out.below ((Below.refl _ V).drew.trans hb4) | exact SV.out.below ((((Below.refl V.heap.size V).alloc (Nat.le_refl _) _).drew).trans (hb4.mono (by simp))))
         have HO4 : Hid (w4.ownsRow (W.heap.size + 1 + 1 + 1) 3 1 (.slice A4 n4 c4) n4 (ints zs)) := Lib.hid (own_mono hown4 (by simp; omega))
         try have H94 : Hid (Blk w4 (W.heap.size + 1 + 1 + 1) 25 #[.int .i64 0, .int .i64 0, .slice none 0 0]) := Lib.hid (by exact Blk.below ((Blk.new' V 25 #[.int .i64 0, .int .i64 0, .slice none 0 0] hs.symm).drew) hb4 (by simp; omega))
         have k40 : w4.cell? ⟨W.heap.size, 0, none⟩ = some (.int .i64 h) := SW.out.1.cell 0
         have k41 : w4.cell? ⟨W.heap.size, 1, none⟩ = some (.int .i64 f) := SW.out.1.cell 1
         have k42 : w4.cell? ⟨W.heap.size, 2, none⟩ = some (.slice A n4 c) := SW.out.1.cell 2
         try have k9 := H94.out.cell
         try have f9 := H94.out.frozen
         have hz4 := SW.out.1.lt
         clear hown4 hb4))
    · go_wp2_with (fail)
      go_meet
      exact ⟨w4.heap.size, A4, c4, rfl, (SW.out.below ((Below.refl _ _).alloc (Nat.le_refl _) _)).cst (Blk.new _ _ _) (World.ownsRow.alloc HO4.out _) SW.out.2.2.2.2.2.2.1⟩
    · go_wp2_with (fail)
      go_meet
      have hne : (Value.slice A4 n4 c4).ownBlock ≠ some (W.heap.size + 1 + 1 + 1) := own_blk_ne HO4.out H94.out (by decide)
      exact ⟨W.heap.size + 1 + 1 + 1, A4, c4, rfl, (((SW.out.set_ (p := ⟨W.heap.size + 1 + 1 + 1, 0, none⟩) (Nat.le_refl _) _).set_ (p := ⟨W.heap.size + 1 + 1 + 1, 1, none⟩) (Nat.le_refl _) _).set_ (p := ⟨W.heap.size + 1 + 1 + 1, 2, none⟩) (Nat.le_refl _) _).cst (((H94.out.set_ 0 _).set_ 1 _).set_ 2 _) (ownsRow_setCell_other (ownsRow_setCell_other (ownsRow_setCell_other HO4.out hne _) hne _) hne _) (Nat.le_refl _)⟩
  case rest =>
    obtain ⟨b9, A2, c2, rfl, S⟩ := hcut
    have SC := Lib.hid S
    have x3 := S.2.2.1.cell
    have hl3 := S.2.2.1.lt
    have hszc := S.2.2.2.2.2.2.2.1.size
    clear S
    go_wp2_with (fail)
    refine (implValid_any h f A n c B zs _ (by exact SC.out.2.2.2.2.2.2.1) (by omega) hn hc).mono ?_
    rintro e w5 ⟨rfl, hb5⟩
    have S5 := Lib.hid (SC.out.below hb5 hB)
    have G5 : Hid (Held w5) := Lib.hid (HG.out.below S5.out.2.2.2.2.2.2.2.1)
    have hl5 := S5.out.2.2.2.2.1.lt
    clear hb5 SC x3 hl3 hszc
    cases hv : lvB h f zs
    · go_wp2_with (fail)
      refine (as_box ⟨W.heap.size + 1 + 1, 0, none⟩ w5.heap.size (.pointer none) _ (by exact G5.out.below ((Below.refl _ _).alloc (Nat.le_refl _) _)) (by exact Blk.new _ _ _)).mono ?_
      rintro e w6 ⟨rfl, hk6, hg6⟩
      have hb6 : Below w5.heap.size w5 w6 := below_box rfl hg6
      have S6 := Lib.hid (S5.out.below hb6 hB)
      have q6 := hk6.cell
      have r6 := S6.out.2.2.2.2.1.cell
      have x6 := S6.out.2.2.2.1.cell
      have y6 := S6.out.2.2.2.1.frozen
      clear hk6 hg6 hb6 S5 G5
      go_wp2_with (fail)
      refine bodyPost_ret (v := .tuple #[.agg #[.int .i64 0, .int .i64 0, .slice none 0 0], .bool false]) (by simp [results, Tryd.results36, go_sem, x6]) rfl ⟨⟨none, 0, 0, rfl, World.ownsRow_nil _ _ _ _⟩, ?_⟩
      exact (((S6.out.2.2.2.2.2.2.2.1.setCell (by simp) _).setCell (by simp) _).setCell (by simp) _)
    · have tw : inB who 0 3 = false := inB_no fun hh => HQ.out ⟨hv, hh⟩
      go_wp2_with (fail)
      refine (isConsumer_any _ _).mono ?_
      rintro e w' ⟨rfl, rfl⟩
      go_wp2_with (fail)
      refine (as_box ⟨W.heap.size + 1 + 1, 0, none⟩ w5.heap.size (.pointer none) _ (by exact G5.out.below ((Below.refl _ _).alloc (Nat.le_refl _) _)) (by exact Blk.new _ _ _)).mono ?_
      rintro e w6 ⟨rfl, hk6, hg6⟩
      have hb6 : Below w5.heap.size w5 w6 := below_box rfl hg6
      have S6 := Lib.hid (S5.out.below hb6 hB)
      have q6 := hk6.cell
      have r6 := S6.out.2.2.2.2.1.cell
      have x6 := S6.out.2.2.2.1.cell
      have y6 := S6.out.2.2.2.1.frozen
      clear hk6 hg6 hb6 S5 G5
      go_wp2_with (fail)
      refine bodyPost_ret (v := .tuple #[.agg #[.int .i64 0, .int .i64 0, .slice none 0 0], .bool false]) (by simp [results, Tryd.results36, go_sem, x6]) rfl ⟨⟨none, 0, 0, rfl, World.ownsRow_nil _ _ _ _⟩, ?_⟩
      exact (((S6.out.2.2.2.2.2.2.2.1.setCell (by simp) _).setCell (by simp) _).setCell (by simp) _)
end Go.Proofs.YtohbmkppfbbngaaDoor
