/-
  What is proved: the contracts of the function value that impl.LockFree hands to changeLock: what it makes of the lock behind its pointer, and which error it returns. Condition: the lock is valid and its line is of the call's own.
-/
import Derived.Test.YtohbmkppfbbngaaDoorAskFn
import Derived.Test.YtohbmkppfbbngaaDoorSpecFreeH
namespace Go.Proofs.YtohbmkppfbbngaaDoor
open Go.RowKit

theorem below_own {w : World} {b : Nat} {e : TypeId} {size : Nat} {v : Value} {n : Nat} {xs : List Value} (h : w.ownsRow b e size v n xs) (k : Nat) : (w.drewN k).ownsRow b e size v n xs := h

set_option maxRecDepth 100000 in
set_option maxHeartbeats 2000000 in
theorem freeFn_none (h f who : Int) (A : Option Addr) (n c B b9 bw base : Nat) (zs : List Int) (W : World) (hk : Blk W b9 25 #[.int .i64 h, .int .i64 f, .slice A n c]) (hw : Blk W bw 3 #[.int .i64 who])
    (hr : Reads W B 1 A n (ints zs)) (hown : W.ownsRow base 3 1 (.slice A n c) n (ints zs)) (hb9 : base ≤ b9) (hn : n ≤ 4) (hf0 : 0 ≤ f) (hf9 : f ≤ 99) (hq : h = who) (hz : n = 0 ∨ f = 99) :
    Calls Tryd.prog 37 #[.pointer (some ⟨b9, 0, none⟩), .pointer (some ⟨bw, 0, none⟩)] W (ChangeOk base b9 W (-1) f zs) := by
  have k9 := hk.cell
  have f9 := hk.frozen
  have kw := hw.cell
  have hl := hr.len_ints
  have hlt := hk.lt
  have hne9 : (Value.slice A n c).ownBlock ≠ some b9 := own_blk_ne hown hk (by decide)
  have hcap := own_caps hown
  have HL := Lib.hid hl
  have HR := Lib.hid hr
  have HK := Lib.hid hk
  have HO := Lib.hid hown
  have HWW := Lib.hid hw
  clear hk hw hr hl hown
  have tb : (h == who) = true := by simp [hq]
  clear hq
  by_cases h0 : n = 0
  · have t0 : ((n : Int) == 0) = true := by simp [h0]
    clear h0 hz
    go_enter Tryd.func37, Tryd.ntmps37
    go_wp2_with (fail)
    go_quiet (fail)
    go_wp2
    go_ret
    have hlen := HL.out
    subst hlen
    exact ⟨rfl, A, c, (HK.out.drewN _).set_ 0 _, ownsRow_setCell_other (v := .slice A zs.length c) HO.out hne9 _, (below_drewN (Below.refl _ _) _).setCell hb9 _⟩
  · have t0 : ((n : Int) == 0) = false := by simp [h0]
    have t9 : (f == 99) = true := by simp; omega
    clear h0 hz
    go_enter Tryd.func37, Tryd.ntmps37
    go_wp2_with (fail)
    go_quiet (fail)
    go_wp2
    go_ret
    have hlen := HL.out
    subst hlen
    exact ⟨rfl, A, c, (HK.out.drewN _).set_ 0 _, ownsRow_setCell_other (v := .slice A zs.length c) HO.out hne9 _, (below_drewN (Below.refl _ _) _).setCell hb9 _⟩

set_option maxRecDepth 100000 in
set_option maxHeartbeats 2000000 in
theorem freeFn_no (h f who : Int) (A : Option Addr) (n c B b9 bw base : Nat) (zs : List Int) (W : World) (hk : Blk W b9 25 #[.int .i64 h, .int .i64 f, .slice A n c]) (hw : Blk W bw 3 #[.int .i64 who])
    (hr : Reads W B 1 A n (ints zs)) (hown : W.ownsRow base 3 1 (.slice A n c) n (ints zs)) (hb9 : base ≤ b9) (hn : n ≤ 4) (hf0 : 0 ≤ f) (hf9 : f ≤ 99) (hq : ¬ h = who) (hm : ¬ who ∈ zs) :
    Calls Tryd.prog 37 #[.pointer (some ⟨b9, 0, none⟩), .pointer (some ⟨bw, 0, none⟩)] W (ChangeNo W) := by
  have k9 := hk.cell
  have f9 := hk.frozen
  have kw := hw.cell
  have hl := hr.len_ints
  have hlt := hk.lt
  have hne9 : (Value.slice A n c).ownBlock ≠ some b9 := own_blk_ne hown hk (by decide)
  have hcap := own_caps hown
  have HL := Lib.hid hl
  have HR := Lib.hid hr
  have HK := Lib.hid hk
  have HO := Lib.hid hown
  have HWW := Lib.hid hw
  clear hk hw hr hl hown
  have tb : (h == who) = false := by simp [hq]
  have HM := Lib.hid hm
  clear hq hm
  go_enter Tryd.func37, Tryd.ntmps37
  go_wp2_with (fail)
  go_quiet (fail)
  go_wp2_with (fail)
  go_quiet (fail)
  go_wp2_with (fail)
  go_quiet ((go_at_call 33; exact quiet_add_left (contains_no _ _ _ _ _ _ _ (HR.out.drewN _) (by unfold maxLen; omega) HM.out)))
  go_wp2
  go_ret
  exact ⟨rfl, Blk.new _ _ _, (below_drewN (Below.refl _ _) _).alloc (Nat.le_refl _) _⟩

set_option maxRecDepth 100000 in
set_option maxHeartbeats 2000000 in
theorem freeFn_next (h f who : Int) (A : Option Addr) (n c B b9 bw base : Nat) (z : Int) (zs' : List Int) (W : World) (hk : Blk W b9 25 #[.int .i64 h, .int .i64 f, .slice A n c]) (hw : Blk W bw 3 #[.int .i64 who])
    (hr : Reads W B 1 A n (ints (z :: zs'))) (hown : W.ownsRow base 3 1 (.slice A n c) n (ints (z :: zs'))) (hb9 : base ≤ b9) (hn : n ≤ 4) (hf0 : 0 ≤ f) (hf9 : f ≤ 99) (hq : h = who) (hf : f < 99) :
    Calls Tryd.prog 37 #[.pointer (some ⟨b9, 0, none⟩), .pointer (some ⟨bw, 0, none⟩)] W (ChangeOk base b9 W z (f + 1) zs') := by
  have k9 := hk.cell
  have f9 := hk.frozen
  have kw := hw.cell
  have hl := hr.len_ints
  have hlt := hk.lt
  have hne9 : (Value.slice A n c).ownBlock ≠ some b9 := own_blk_ne hown hk (by decide)
  have hcap := own_caps hown
  have HL := Lib.hid hl
  have HR := Lib.hid hr
  have HK := Lib.hid hk
  have HO := Lib.hid hown
  have HWW := Lib.hid hw
  clear hk hw hr hl hown
  have tb : (h == who) = true := by simp [hq]
  have h0 : 0 < n := by have := HL.out; simp at this; omega
  obtain ⟨g, cap, hAe, hbg, hglt⟩ := HO.out.form h0
  simp only [Value.slice.injEq] at hAe
  obtain ⟨rfl, _, rfl⟩ := hAe
  have hcell : W.cell? ⟨g, 0, none⟩ = some (.int .i64 z) := HO.out.cellAt 0 (by omega)
  have hgne : g ≠ b9 := fun e => hne9 (by rw [e]; rfl)
  have hgne' : ¬ b9 = g := fun e => hgne e.symm
  have t0 : ((n : Int) == 0) = false := by simp; omega
  have t9 : (f == 99) = false := by simp; omega
  have hbz : base < W.heap.size := by omega
  have HC : ∀ (V : World), V.ownsRow base 3 1 (.slice (some ⟨g, 0, none⟩) n c) n (ints (z :: zs')) → V.heap.size = W.heap.size → Reads V W.heap.size 1 (if c = 1 then some ⟨g, 0, none⟩ else some ⟨g, 1, none⟩) (n - 1) (ints zs') := fun V hV hs => by
    have h1 := (Reads.of_own hV).cut (k := 1) (cap := c) (by omega) hcap.1
    rw [hs] at h1
    simpa [Addr.add, ints] using h1
  have HCC := Lib.hid HC
  clear hq HC
  by_cases hc1 : c = 1
  · have HC1 : ∀ (V : World), V.ownsRow base 3 1 (.slice (some ⟨g, 0, none⟩) n c) n (ints (z :: zs')) → V.heap.size = W.heap.size → Reads V W.heap.size 1 (some ⟨g, 0, none⟩) (n - 1) (ints zs') := fun V a b => by
      have := HCC.out V a b; rwa [if_pos hc1] at this
    have HD := Lib.hid HC1
    clear HC1
    go_enter Tryd.func37, Tryd.ntmps37
    go_wp2_with (fail)
    go_quiet (fail)
    go_wp2_with (fail)
    go_quiet (fail)
    go_wp2_with (fail)
    refine (clone_any _ (n - 1) _ W.heap.size zs' _ (by exact HD.out _ (ownsRow_setCell_other (v := .slice (some ⟨g, 0, none⟩) n c) (below_own HO.out _) hne9 _) (by simp [World.setCell])) (by simp [World.setCell]) (by omega)).mono ?_
    rintro e w3 ⟨⟨A3, n3, c3, rfl, hown3⟩, hb3⟩
    have hn3 : n3 = zs'.length := by have := hown3.1; rw [ints_len] at this; omega
    subst hn3
    have HK3 : Hid (Blk w3 b9 25 #[.int .i64 z, .int .i64 f, .slice (some ⟨g, 0, none⟩) n c]) := Lib.hid (((HK.out.drewN _).set_ 0 (.int .i64 z)).below hb3 (by simp [World.setCell]; omega))
    have HB3 : Hid (Below base W w3) := Lib.hid (((below_drewN (Below.refl _ _) _).setCell hb9 _).trans (hb3.mono (by simp [World.setCell]; omega)))
    have HO3 := Lib.hid (own_mono hown3 (show base ≤ _ by simp [World.setCell]; omega))
    have hne3 : (Value.slice A3 zs'.length c3).ownBlock ≠ some b9 := own_blk_ne hown3 HK3.out (by decide)
    have k3 := HK3.out.cell
    have f3 := HK3.out.frozen
    clear hown3 hb3
    go_wp2_with (fail)
    go_ret
    refine ⟨rfl, A3, c3, ?_, ?_, ?_⟩
    · exact (HK3.out.set_ 2 _).set_ 1 _
    · exact ownsRow_setCell_other (v := .slice A3 zs'.length c3) (ownsRow_setCell_other (v := .slice A3 zs'.length c3) HO3.out hne3 _) hne3 _
    · exact (HB3.out.setCell hb9 _).setCell hb9 _
  · have HC1 : ∀ (V : World), V.ownsRow base 3 1 (.slice (some ⟨g, 0, none⟩) n c) n (ints (z :: zs')) → V.heap.size = W.heap.size → Reads V W.heap.size 1 (some ⟨g, 1, none⟩) (n - 1) (ints zs') := fun V a b => by
      have := HCC.out V a b; rwa [if_neg hc1] at this
    have HD := Lib.hid HC1
    clear HC1
    go_enter Tryd.func37, Tryd.ntmps37
    go_wp2_with (fail)
    go_quiet (fail)
    go_wp2_with (fail)
    go_quiet (fail)
    go_wp2_with (fail)
    refine (clone_any _ (n - 1) _ W.heap.size zs' _ (by exact HD.out _ (ownsRow_setCell_other (v := .slice (some ⟨g, 0, none⟩) n c) (below_own HO.out _) hne9 _) (by simp [World.setCell])) (by simp [World.setCell]) (by omega)).mono ?_
    rintro e w3 ⟨⟨A3, n3, c3, rfl, hown3⟩, hb3⟩
    have hn3 : n3 = zs'.length := by have := hown3.1; rw [ints_len] at this; omega
    subst hn3
    have HK3 : Hid (Blk w3 b9 25 #[.int .i64 z, .int .i64 f, .slice (some ⟨g, 0, none⟩) n c]) := Lib.hid (((HK.out.drewN _).set_ 0 (.int .i64 z)).below hb3 (by simp [World.setCell]; omega))
    have HB3 : Hid (Below base W w3) := Lib.hid (((below_drewN (Below.refl _ _) _).setCell hb9 _).trans (hb3.mono (by simp [World.setCell]; omega)))
    have HO3 := Lib.hid (own_mono hown3 (show base ≤ _ by simp [World.setCell]; omega))
    have hne3 : (Value.slice A3 zs'.length c3).ownBlock ≠ some b9 := own_blk_ne hown3 HK3.out (by decide)
    have k3 := HK3.out.cell
    have f3 := HK3.out.frozen
    clear hown3 hb3
    go_wp2_with (fail)
    go_ret
    refine ⟨rfl, A3, c3, ?_, ?_, ?_⟩
    · exact (HK3.out.set_ 2 _).set_ 1 _
    · exact ownsRow_setCell_other (v := .slice A3 zs'.length c3) (ownsRow_setCell_other (v := .slice A3 zs'.length c3) HO3.out hne3 _) hne3 _
    · exact (HB3.out.setCell hb9 _).setCell hb9 _

/-- The state of the loop in LockFree's function value: ys is the line that has been collected. -/
def FLRel (W : World) (b9 bw : Nat) (h f who : Int) (A : Option Addr) (n c : Nat) (zs ys : List Int) (A' : Option Addr) (c' : Nat) (wr : World) : Prop :=
  Blk wr b9 25 #[.int .i64 h, .int .i64 f, .slice A n c] ∧ Blk wr bw 3 #[.int .i64 who] ∧ wr.ownsRow W.heap.size 3 1 (.slice A' ys.length c') ys.length (ints ys) ∧
    Reads wr W.heap.size 1 A n (ints zs) ∧ Below W.heap.size W wr

set_option maxRecDepth 100000 in
set_option maxHeartbeats 2000000 in
theorem freeFn_line (h f who : Int) (A : Option Addr) (n c B b9 bw base : Nat) (zs : List Int) (W : World) (hk : Blk W b9 25 #[.int .i64 h, .int .i64 f, .slice A n c]) (hw : Blk W bw 3 #[.int .i64 who])
    (hr : Reads W B 1 A n (ints zs)) (hown : W.ownsRow base 3 1 (.slice A n c) n (ints zs)) (hb9 : base ≤ b9) (hn : n ≤ 4) (hf0 : 0 ≤ f) (hf9 : f ≤ 99) (hq : ¬ h = who) (hm : who ∈ zs) :
    Calls Tryd.prog 37 #[.pointer (some ⟨b9, 0, none⟩), .pointer (some ⟨bw, 0, none⟩)] W (ChangeOk base b9 W h f (zs.filter (· ≠ who))) := by
  obtain ⟨i0, hi0, hz0', hza, hzb⟩ := info_parts int_info
  have k9 := hk.cell
  have f9 := hk.frozen
  have kw := hw.cell
  have hl := hr.len_ints
  have hlt := hk.lt
  have hne9 : (Value.slice A n c).ownBlock ≠ some b9 := own_blk_ne hown hk (by decide)
  have hcap := own_caps hown
  have HL := Lib.hid hl
  have HR := Lib.hid hr
  have HK := Lib.hid hk
  have HO := Lib.hid hown
  have HWW := Lib.hid hw
  clear hk hw hr hl hown
  have tb : (h == who) = false := by simp [hq]
  have HM := Lib.hid hm
  have ka9 : ∀ (q : Nat) (o : Obj) (i : Nat), ((W.drewN q).alloc o).cell? ⟨b9, i, none⟩ = (#[.int .i64 h, .int .i64 f, .slice A n c] : Array Value)[i]? := fun q o i => ((HK.out.drewN q).alloc o).cell i
  clear hq hm
  go_enter Tryd.func37, Tryd.ntmps37
  go_wp2_with (fail)
  go_quiet (fail)
  go_wp2_with (fail)
  go_quiet (fail)
  go_wp2_with (fail)
  go_quiet ((go_at_call 33; exact quiet_add_left (contains_yes _ _ _ _ _ _ _ (HR.out.drewN _) (by unfold maxLen; omega) HM.out)))
  go_wp2_with (fail)
  have hlw : bw < W.heap.size := HWW.out.lt
  have S0 : ∀ q : Nat, FLRel W b9 bw h f who A n c zs [] (some ⟨W.heap.size, 0, none⟩) 0 ((W.drewN q).alloc (.cells #[] 3)) := fun q =>
    ⟨(HK.out.drewN _).alloc _, (HWW.out.drewN _).alloc _, own_lit (g := W.heap.size) (n := 0) (xs := []) (W.drewN q) rfl (Nat.le_refl _) rfl (by unfold maxLen; omega), ((Reads.of_own HO.out).drewN _).alloc (Nat.le_refl _) _, (below_drewN (Below.refl _ _) _).alloc (Nat.le_refl _) _⟩
  clear k9 f9 kw HR ka9
  go_loopw [4, 80] (fun s4 s80 wr => ∃ (k : Nat) (A' : Option Addr) (c' : Nat), k ≤ n ∧ s80 = .int .i64 k ∧ s4 = .slice A' ((zs.take k).filter (· ≠ who)).length c' ∧ FLRel W b9 bw h f who A n c zs ((zs.take k).filter (· ≠ who)) A' c' wr) (fun _ s80 _ => n - (intOf s80).toNat)
  case atStart => exact ⟨0, _, _, Nat.zero_le _, rfl, rfl, S0 _⟩
  case round =>
    clear S0
    obtain ⟨k, A3, c3, hk, rfl, rfl, HB9, HBw, HOy, HRr, HBl⟩ := hrel
    have hylen : ((zs.take k).filter (· ≠ who)).length ≤ 4 := Nat.le_trans (List.length_filter_le _ _) (by rw [List.length_take]; omega)
    generalize hyy : (zs.take k).filter (· ≠ who) = ys at HOy hylen ⊢
    have HY := Lib.hid hyy
    have kwr := HBw.cell
    have H9 := Lib.hid HB9
    have Hw := Lib.hid HBw
    have HOO := Lib.hid HOy
    have HRR := Lib.hid HRr
    have HBB := Lib.hid HBl
    have hszr : W.heap.size ≤ wr.heap.size := HBl.size
    clear hyy HB9 HBw HOy HRr HBl
    by_cases hlt2 : k < n
    · obtain ⟨ad, u, rfl, _, hx, hcell⟩ := HRR.out.at_ hlt2
      obtain ⟨z, hz, rfl⟩ := ints_at hx
      have HZ := Lib.hid hz
      clear hz hx
      by_cases he : z = who
      · have tz : (z != who) = false := by simp [he]
        have HE := Lib.hid he
        clear he
        go_wp2_with (fail)
        go_roundw
        case rel => exact ⟨k + 1, A3, c3, by omega, by go_num, by rw [filter_skip HZ.out HE.out, HY.out], H9.out, Hw.out, by rw [filter_skip HZ.out HE.out, HY.out]; exact HOO.out, HRR.out, HBB.out⟩
        case measure => simp [intOf]; omega
      · have tz : (z != who) = true := by simp [he]
        go_wp2_with (at_builtin
                     refine wpList_append_any _ rfl (.tmp 87) (.tmp 89) _ rfl W.heap.size 3 i0 _ 1 8 Tryd.underlying23 hi0 hz0' (by assumption) hzb rfl (by omega) (.slice A3 ys.length c3) ys.length (ints ys) rfl
                       (by exact World.ownsRow.alloc HOO.out _) (wr.heap.size + 1) (some ⟨wr.heap.size, 0, none⟩) 1 1 (ints [z]) rfl (by exact reads_new wr rfl rfl) ints_one (by unfold maxLen; omega) (by omega) (by simp; omega) ?_
                     intro v4 w4 hown4 hg4 hat4
                     rw [ints_append] at hown4
                     obtain ⟨A4, c4, rfl⟩ := own_slice hown4
                     have hrow : ∀ k, (Value.slice A3 ys.length c3).ownBlock = some k → W.heap.size ≤ k := fun k hk => (World.ownsRow.lt HOO.out k hk).1
                     have H94 := Lib.hid ((H9.out.alloc (.cells #[.int .i64 z] 3)).grown hg4 (fun e => by have := hrow _ e.symm; omega))
                     have Hw4 := Lib.hid ((Hw.out.alloc (.cells #[.int .i64 z] 3)).grown hg4 (fun e => by have := hrow _ e.symm; omega))
                     have HR4 := Lib.hid ((HRR.out.alloc hszr (.cells #[.int .i64 z] 3)).grown hg4 (by simp; omega) hrow)
                     have HB4 : Hid (Below W.heap.size W w4) := Lib.hid ((HBB.out.alloc hszr _).grown hg4 (by simp; omega) hrow)
                     have HO4 := Lib.hid hown4
                     clear hown4 hg4 hat4)
        go_roundw
        case rel =>
          have hl4 : (ys ++ [z]).length = ys.length + 1 := by simp
          refine ⟨k + 1, A4, c4, by omega, by go_num, ?_, ?_⟩
          · rw [filter_step HZ.out he, HY.out, hl4]
          · rw [filter_step HZ.out he, HY.out]
            exact ⟨H94.out, Hw4.out, by rw [hl4]; exact HO4.out, HR4.out, HB4.out⟩
        case measure => simp [intOf]; omega
    · have k9r := H9.out.cell
      have f9r := H9.out.frozen
      have hne9 : (Value.slice A3 ys.length c3).ownBlock ≠ some b9 := own_blk_ne HOO.out H9.out (by decide)
      have HQ : Hid (zs.filter (· ≠ who) = ys) := Lib.hid (by
        have h1 := HY.out
        rwa [List.take_of_length_le (by have := HL.out; omega)] at h1)
      go_wp2_with (fail)
      go_ret
      rw [HQ.out]
      exact ⟨rfl, A3, c3, H9.out.set_ 2 _, ownsRow_setCell_other (v := .slice A3 ys.length c3) (own_mono HOO.out (by omega)) hne9 _, (HBB.out.mono (by omega)).setCell hb9 _⟩
end Go.Proofs.YtohbmkppfbbngaaDoor
