/-
  What is proved: the contracts of impl.changeLock where the function value changes the lock, and where it refuses. Condition: as in the text before, the lock is valid, and the function value's contract is known.
-/
import Derived.Test.YtohbmkppfbbngaaDoorChange
namespace Go.Proofs.YtohbmkppfbbngaaDoor
open Go.RowKit

set_option maxRecDepth 100000 in
set_option maxHeartbeats 4000000 in
theorem change_ok_ask (h f who : Int) (A : Option Addr) (n c B bw : Nat) (zs : List Int) (W : World) (hr : Reads W B 1 A n (ints zs)) (hB : B ≤ W.heap.size) (hn : n ≤ c) (hc : c ≤ maxLen) (hn2 : n ≤ 1048576)
    (hw : Blk W bw 3 #[.int .i64 who]) (hg : Held W) (hb : lvB h f zs = true) (hwho : 0 ≤ who ∧ who ≤ 3)
    (h' f' : Int) (zs' : List Int) (hchg : ∀ (b9 : Nat) (A2 : Option Addr) (c2 : Nat) (V : World), Blk V b9 25 #[.int .i64 h, .int .i64 f, .slice A2 n c2] → Blk V bw 3 #[.int .i64 who] → V.ownsRow (W.heap.size + 1 + 1 + 1) 3 1 (.slice A2 n c2) n (ints zs) → W.heap.size + 1 + 1 + 1 ≤ b9 →
      Calls Tryd.prog 42 #[.pointer (some ⟨b9, 0, none⟩), .pointer (some ⟨bw, 0, none⟩)] V (ChangeOk (W.heap.size + 1 + 1 + 1) b9 V h' f' zs')) :
    Calls Tryd.prog 36 #[.agg #[.int .i64 h, .int .i64 f, .slice A n c], .int .i64 who, .func (.func 42) #[] #[.pointer (some ⟨bw, 0, none⟩)]] W fun e w' => RetLockOk W.heap.size ((h', f', zs'), true) e w' ∧ Below W.heap.size W w' := by
  have HR := Lib.hid hr
  have HW := Lib.hid hw
  have HG := Lib.hid hg
  have HH := Lib.hid hchg
  have tw : inB who 0 3 = true := inB_yes hwho
  have hbw := hw.lt
  clear hr hw hg hchg
  go_enter Tryd.func36, Tryd.ntmps36
  go_upto_region 2 with (fail)
  go_cut [9] (fun s9 wx => ∃ (b9 : Nat) (A2 : Option Addr) (c2 : Nat), s9 = .pointer (some ⟨b9, 0, none⟩) ∧ CSt W bw b9 h f who A n c B zs A2 c2 wx)
  case first =>
    have SV : Hid (PSt0 W bw h f who A n c B zs (((W.alloc (.cells #[.int .i64 h, .int .i64 f, .slice A n c] 25)).alloc (.cells #[.int .i64 0, .int .i64 0, .slice none 0 0] 25)).alloc (.cells #[.bool true] 53))) :=
      Lib.hid (pst_mk HR.out hB HW.out).1
    have hs : (((W.alloc (.cells #[.int .i64 h, .int .i64 f, .slice A n c] 25)).alloc (.cells #[.int .i64 0, .int .i64 0, .slice none 0 0] 25)).alloc (.cells #[.bool true] 53)).heap.size = W.heap.size + 1 + 1 + 1 := by simp
    generalize ((W.alloc (.cells #[.int .i64 h, .int .i64 f, .slice A n c] 25)).alloc (.cells #[.int .i64 0, .int .i64 0, .slice none 0 0] 25)).alloc (.cells #[.bool true] 53) = V at SV hs ⊢
    have kV := SV.out.1.cell
    have hV0 : V.cell? ⟨W.heap.size, 0, none⟩ = some (.int .i64 h) := SV.out.1.cell 0
    have hV1 : V.cell? ⟨W.heap.size, 1, none⟩ = some (.int .i64 f) := SV.out.1.cell 1
    have hV2 : V.cell? ⟨W.heap.size, 2, none⟩ = some (.slice A n c) := SV.out.1.cell 2
    have hVl : W.heap.size < V.heap.size := SV.out.1.lt
    clear kV
    go_region_held3 (fun w' => w'.cell? ⟨W.heap.size, 0, none⟩ = some (.int .i64 h) ∧ w'.cell? ⟨W.heap.size, 1, none⟩ = some (.int .i64 f) ∧ w'.cell? ⟨W.heap.size, 2, none⟩ = some (.slice A n c)) (first | go_keep | (refine ⟨?_, ?_, ?_⟩ <;> (rw [World.cell?_setCell_other _ _ _ _ (by intro e; injection e with e1; omega), World.cell?_setCell_other _ _ _ _ (by intro e; injection e with e1; omega), World.cell?_setCell_other _ _ _ _ (by intro e; injection e with e1; omega)]; assumption))) (first
      | (go_at_call 38
         refine (clone_any A n c B zs _ (by first | exact SV.out.2.2.2.2.1.drew | exact (SV.out.2.2.2.2.1.alloc (by omega) _).drew) (by simp; omega) hn2).mono ?_
         rintro e w4 ⟨⟨A4, n4, c4, rfl, hown4⟩, hb4⟩
         have hn4 : n4 = n := by have h1 := hown4.1; rw [ints_len] at h1; have h2 := SV.out.2.2.2.2.1.len_ints; omega
         subst hn4
         have SW : Hid (PSt0 W bw h f who A n4 c B zs w4) := Lib.hid (by first | exact SV.out.below ((Below.refl _ V).drew.trans hb4) | exact SV.out.below ((((Below.refl V.heap.size V).alloc (Nat.le_refl _) _).drew).trans (hb4.mono (by simp))))
         have HO4 : Hid (w4.ownsRow (W.heap.size + 1 + 1 + 1) 3 1 (.slice A4 n4 c4) n4 (ints zs)) := Lib.hid (own_mono hown4 (by simp; omega))
         try have H94 : Hid (Blk w4 (W.heap.size + 1 + 1 + 1) 25 #[.int .i64 0, .int .i64 0, .slice none 0 0]) := Lib.hid (by exact Blk.below ((Blk.new' V 25 #[.int .i64 0, .int .i64 0, .slice none 0 0] hs.symm).drew) hb4 (by simp; omega))
         have k40 : w4.cell? ⟨W.heap.size, 0, none⟩ = some (.int .i64 h) := SW.out.1.cell 0
         have k41 : w4.cell? ⟨W.heap.size, 1, none⟩ = some (.int .i64 f) := SW.out.1.cell 1
         have k42 : w4.cell? ⟨W.heap.size, 2, none⟩ = some (.slice A n4 c) := SW.out.1.cell 2
         try have k9 := H94.out.cell
         try have f9 := H94.out.frozen
         have hz4 := SW.out.1.lt
         clear hown4 hb4))
    · go_wp2_with (fail)
      go_meet
      exact ⟨w4.heap.size, A4, c4, rfl, (SW.out.below ((Below.refl _ _).alloc (Nat.le_refl _) _)).cst (Blk.new _ _ _) (World.ownsRow.alloc HO4.out _) SW.out.2.2.2.2.2.2.1⟩
    · go_wp2_with (fail)
      go_meet
      have hne : (Value.slice A4 n4 c4).ownBlock ≠ some (W.heap.size + 1 + 1 + 1) := own_blk_ne HO4.out H94.out (by decide)
      exact ⟨W.heap.size + 1 + 1 + 1, A4, c4, rfl, (((SW.out.set_ (p := ⟨W.heap.size + 1 + 1 + 1, 0, none⟩) (Nat.le_refl _) _).set_ (p := ⟨W.heap.size + 1 + 1 + 1, 1, none⟩) (Nat.le_refl _) _).set_ (p := ⟨W.heap.size + 1 + 1 + 1, 2, none⟩) (Nat.le_refl _) _).cst (((H94.out.set_ 0 _).set_ 1 _).set_ 2 _) (ownsRow_setCell_other (ownsRow_setCell_other (ownsRow_setCell_other HO4.out hne _) hne _) hne _) (Nat.le_refl _)⟩
  case rest =>
    obtain ⟨b9, A2, c2, rfl, S⟩ := hcut
    have SC := Lib.hid S
    have x3 := S.2.2.1.cell
    have hl3 := S.2.2.1.lt
    have hszc := S.2.2.2.2.2.2.2.1.size
    clear S
    go_wp2_with (fail)
    refine (implValid_any h f A n c B zs _ (by exact SC.out.2.2.2.2.2.2.1) (by omega) hn hc).mono ?_
    rintro e w5 ⟨rfl, hb5⟩
    have S5 := Lib.hid (SC.out.below hb5 hB)
    have G5 : Hid (Held w5) := Lib.hid (HG.out.below S5.out.2.2.2.2.2.2.2.1)
    have hl5 := S5.out.2.2.2.2.1.lt
    clear hb5 SC x3 hl3 hszc
    go_wp2_with (fail)
    refine (isConsumer_any _ _).mono ?_
    rintro e w' ⟨rfl, rfl⟩
    go_wp2_with (fail)
    refine (HH.out b9 A2 c2 _ S5.out.1 S5.out.2.2.2.2.2.1 S5.out.2.1 S5.out.2.2.2.2.2.2.2.2).mono ?_
    rintro e w6 ⟨rfl, A6, c6, hk6, ho6, hb6⟩
    have HK6 := Lib.hid hk6
    have HO6 := Lib.hid ho6
    have HX6 := Lib.hid (S5.out.2.2.2.1.below hb6 (by omega))
    have HB6 : Hid (Below W.heap.size W w6) := Lib.hid (S5.out.2.2.2.2.2.2.2.1.trans (hb6.mono (by omega)))
    have k6 := HK6.out.cell
    have hl6 := HK6.out.lt
    have x6 := HX6.out.cell
    have y6 := HX6.out.frozen
    have hlx6 := HX6.out.lt
    have hne : (Value.slice A6 zs'.length c6).ownBlock ≠ some (W.heap.size + 1) := own_blk_ne HO6.out HX6.out (by decide)
    clear hk6 ho6 hb6 S5 G5 HH
    go_wp2_with (go_at_call 47; refine (as_nil _ _).mono ?_; rintro e w' ⟨rfl, rfl⟩)
    refine bodyPost_ret (v := .tuple #[.agg #[.int .i64 h', .int .i64 f', .slice A6 zs'.length c6], .bool true]) (by simp [results, Tryd.results36, go_sem, x6, hlx6]) rfl ⟨⟨A6, zs'.length, c6, rfl, ?_⟩, ?_⟩
    · refine own_mono (b := W.heap.size + 1 + 1 + 1) ?_ (by omega)
      repeat (first | with_reducible refine World.ownsRow.alloc ?_ _ | with_reducible refine ownsRow_setCell_other ?_ hne _ | with_reducible exact HO6.out)
    · have hsz6 : W.heap.size ≤ w6.heap.size := HB6.out.size
      repeat (first | with_reducible refine Below.alloc ?_ (by first | omega | (simp; omega)) _ | with_reducible refine Below.setCell ?_ (by first | omega | (simp; done) | (simp; omega)) _ | with_reducible exact HB6.out)

set_option maxRecDepth 100000 in
set_option maxHeartbeats 4000000 in
theorem change_no_ask (h f who : Int) (A : Option Addr) (n c B bw : Nat) (zs : List Int) (W : World) (hr : Reads W B 1 A n (ints zs)) (hB : B ≤ W.heap.size) (hn : n ≤ c) (hc : c ≤ maxLen) (hn2 : n ≤ 1048576)
    (hw : Blk W bw 3 #[.int .i64 who]) (hg : Held W) (hb : lvB h f zs = true) (hwho : 0 ≤ who ∧ who ≤ 3)
    (hchg : ∀ (b9 : Nat) (A2 : Option Addr) (c2 : Nat) (V : World), Blk V b9 25 #[.int .i64 h, .int .i64 f, .slice A2 n c2] → Blk V bw 3 #[.int .i64 who] → V.ownsRow (W.heap.size + 1 + 1 + 1) 3 1 (.slice A2 n c2) n (ints zs) → W.heap.size + 1 + 1 + 1 ≤ b9 →
      Calls Tryd.prog 42 #[.pointer (some ⟨b9, 0, none⟩), .pointer (some ⟨bw, 0, none⟩)] V (ChangeNo V)) :
    Calls Tryd.prog 36 #[.agg #[.int .i64 h, .int .i64 f, .slice A n c], .int .i64 who, .func (.func 42) #[] #[.pointer (some ⟨bw, 0, none⟩)]] W fun e w' => RetLockOk W.heap.size ((h, f, zs), false) e w' ∧ Below W.heap.size W w' := by
  have HR := Lib.hid hr
  have HW := Lib.hid hw
  have HG := Lib.hid hg
  have HH := Lib.hid hchg
  have tw : inB who 0 3 = true := inB_yes hwho
  have hbw := hw.lt
  clear hr hw hg hchg
  go_enter Tryd.func36, Tryd.ntmps36
  go_upto_region 2 with (fail)
  go_cut [9] (fun s9 wx => ∃ (b9 : Nat) (A2 : Option Addr) (c2 : Nat), s9 = .pointer (some ⟨b9, 0, none⟩) ∧ CSt W bw b9 h f who A n c B zs A2 c2 wx)
  case first =>
    have SV : Hid (PSt0 W bw h f who A n c B zs (((W.alloc (.cells #[.int .i64 h, .int .i64 f, .slice A n c] 25)).alloc (.cells #[.int .i64 0, .int .i64 0, .slice none 0 0] 25)).alloc (.cells #[.bool true] 53))) :=
      Lib.hid (pst_mk HR.out hB HW.out).1
    have hs : (((W.alloc (.cells #[.int .i64 h, .int .i64 f, .slice A n c] 25)).alloc (.cells #[.int .i64 0, .int .i64 0, .slice none 0 0] 25)).alloc (.cells #[.bool true] 53)).heap.size = W.heap.size + 1 + 1 + 1 := by simp
    generalize ((W.alloc (.cells #[.int .i64 h, .int .i64 f, .slice A n c] 25)).alloc (.cells #[.int .i64 0, .int .i64 0, .slice none 0 0] 25)).alloc (.cells #[.bool true] 53) = V at SV hs ⊢
    have kV := SV.out.1.cell
    have hV0 : V.cell? ⟨W.heap.size, 0, none⟩ = some (.int .i64 h) := SV.out.1.cell 0
    have hV1 : V.cell? ⟨W.heap.size, 1, none⟩ = some (.int .i64 f) := SV.out.1.cell 1
    have hV2 : V.cell? ⟨W.heap.size, 2, none⟩ = some (.slice A n c) := SV.out.1.cell 2
    have hVl : W.heap.size < V.heap.size := SV.out.1.lt
    clear kV
    go_region_held3 (fun w' => w'.cell? ⟨W.heap.size, 0, none⟩ = some (.int .i64 h) ∧ w'.cell? ⟨W.heap.size, 1, none⟩ = some (.int .i64 f) ∧ w'.cell? ⟨W.heap.size, 2, none⟩ = some (.slice A n c)) (first | go_keep | (refine ⟨?_, ?_, ?_⟩ <;> (rw [World.cell?_setCell_other _ _ _ _ (by intro e; injection e with e1; omega), World.cell?_setCell_other _ _ _ _ (by intro e; injection e with e1; omega), World.cell?_setCell_other _ _ _ _ (by intro e; injection e with e1; omega)]; assumption))) (first
      | (go_at_call 38
         refine (clone_any A n c B zs _ (by first | exact SV.out.2.2.2.2.1.drew | exact (SV.out.2.2.2.2.1.alloc (by omega) _).drew) (by simp; omega) hn2).mono ?_
         rintro e w4 ⟨⟨A4, n4, c4, rfl, hown4⟩, hb4⟩
         have hn4 : n4 = n := by have h1 := hown4.1; rw [ints_len] at h1; have h2 := SV.out.2.2.2.2.1.len_ints; omega
         subst hn4
         have SW : Hid (PSt0 W bw h f who A n4 c B zs w4) := Lib.hid (by first | exact SV.out.below ((Below.refl _ V).drew.trans hb4) | exact SV.out.below ((((Below.refl V.heap.size V).alloc (Nat.le_refl _) _).drew).trans (hb4.mono (by simp))))
         have HO4 : Hid (w4.ownsRow (W.heap.size + 1 + 1 + 1) 3 1 (.slice A4 n4 c4) n4 (ints zs)) := Lib.hid (own_mono hown4 (by simp; omega))
         try have H94 : Hid (Blk w4 (W.heap.size + 1 + 1 + 1) 25 #[.int .i64 0, .int .i64 0, .slice none 0 0]) := Lib.hid (by exact Blk.below ((Blk.new' V 25 #[.int .i64 0, .int .i64 0, .slice none 0 0] hs.symm).drew) hb4 (by simp; omega))
         have k40 : w4.cell? ⟨W.heap.size, 0, none⟩ = some (.int .i64 h) := SW.out.1.cell 0
         have k41 : w4.cell? ⟨W.heap.size, 1, none⟩ = some (.int .i64 f) := SW.out.1.cell 1
         have k42 : w4.cell? ⟨W.heap.size, 2, none⟩ = some (.slice A n4 c) := SW.out.1.cell 2
         try have k9 := H94.out.cell
         try have f9 := H94.out.frozen
         have hz4 := SW.out.1.lt
         clear hown4 hb4))
    · go_wp2_with (fail)
      go_meet
      exact ⟨w4.heap.size, A4, c4, rfl, (SW.out.below ((Below.refl _ _).alloc (Nat.le_refl _) _)).cst (Blk.new _ _ _) (World.ownsRow.alloc HO4.out _) SW.out.2.2.2.2.2.2.1⟩
    · go_wp2_with (fail)
      go_meet
      have hne : (Value.slice A4 n4 c4).ownBlock ≠ some (W.heap.size + 1 + 1 + 1) := own_blk_ne HO4.out H94.out (by decide)
      exact ⟨W.heap.size + 1 + 1 + 1, A4, c4, rfl, (((SW.out.set_ (p := ⟨W.heap.size + 1 + 1 + 1, 0, none⟩) (Nat.le_refl _) _).set_ (p := ⟨W.heap.size + 1 + 1 + 1, 1, none⟩) (Nat.le_refl _) _).set_ (p := ⟨W.heap.size + 1 + 1 + 1, 2, none⟩) (Nat.le_refl _) _).cst (((H94.out.set_ 0 _).set_ 1 _).set_ 2 _) (ownsRow_setCell_other (ownsRow_setCell_other (ownsRow_setCell_other HO4.out hne _) hne _) hne _) (Nat.le_refl _)⟩
  case rest =>
    obtain ⟨b9, A2, c2, rfl, S⟩ := hcut
    have SC := Lib.hid S
    have x3 := S.2.2.1.cell
    have hl3 := S.2.2.1.lt
    have hszc := S.2.2.2.2.2.2.2.1.size
    clear S
    go_wp2_with (fail)
    refine (implValid_any h f A n c B zs _ (by exact SC.out.2.2.2.2.2.2.1) (by omega) hn hc).mono ?_
    rintro e w5 ⟨rfl, hb5⟩
    have S5 := Lib.hid (SC.out.below hb5 hB)
    have G5 : Hid (Held w5) := Lib.hid (HG.out.below S5.out.2.2.2.2.2.2.2.1)
    have hl5 := S5.out.2.2.2.2.1.lt
    clear hb5 SC x3 hl3 hszc
    go_wp2_with (fail)
    refine (isConsumer_any _ _).mono ?_
    rintro e w' ⟨rfl, rfl⟩
    go_wp2_with (fail)
    refine (HH.out b9 A2 c2 _ S5.out.1 S5.out.2.2.2.2.2.1 S5.out.2.1 S5.out.2.2.2.2.2.2.2.2).mono ?_
    rintro e w6 ⟨rfl, hk6, hb6⟩
    have S6 := Lib.hid (S5.out.below hb6 hB)
    have G6 : Hid (Held w6) := Lib.hid (G5.out.below hb6)
    have HK6 := Lib.hid hk6
    have hl6 := HK6.out.lt
    clear hk6 hb6 S5 G5 HH
    go_wp2_with (fail)
    refine (as_box ⟨w5.heap.size, 0, none⟩ w6.heap.size (.pointer none) _ (by exact G6.out.below ((Below.refl _ _).alloc (Nat.le_refl _) _)) (by exact Blk.new _ _ _)).mono ?_
    rintro e w7 ⟨rfl, hk7, hg7⟩
    have hb7 : Below w6.heap.size w6 w7 := below_box rfl hg7
    have S7 := Lib.hid (S6.out.below hb7 hB)
    have q7 := hk7.cell
    have r7 := (HK6.out.below hb7 hl6).cell
    have z7 := S7.out.2.2.1.cell
    have x7 := S7.out.2.2.2.1.cell
    have y7 := S7.out.2.2.2.1.frozen
    clear hk7 hg7 hb7 S6 G6 HK6
    go_wp2_with (fail)
    have hV0 : w7.cell? ⟨W.heap.size, 0, none⟩ = some (.int .i64 h) := S7.out.2.2.1.cell 0
    have hV1 : w7.cell? ⟨W.heap.size, 1, none⟩ = some (.int .i64 f) := S7.out.2.2.1.cell 1
    have hV2 : w7.cell? ⟨W.heap.size, 2, none⟩ = some (.slice A n c) := S7.out.2.2.1.cell 2
    have hsz7 : W.heap.size ≤ w7.heap.size := S7.out.2.2.2.2.2.2.2.1.size
    have hlb7 := S7.out.2.2.2.1.lt
    clear q7 r7 z7 x7 y7
    go_region_held3 (fun w' => w'.cell? ⟨W.heap.size, 0, none⟩ = some (.int .i64 h) ∧ w'.cell? ⟨W.heap.size, 1, none⟩ = some (.int .i64 f) ∧ w'.cell? ⟨W.heap.size, 2, none⟩ = some (.slice A n c)) (first | go_keep | (refine ⟨?_, ?_, ?_⟩ <;> (rw [World.cell?_setCell_other _ _ _ _ (by intro e; injection e with e1; omega), World.cell?_setCell_other _ _ _ _ (by intro e; injection e with e1; omega), World.cell?_setCell_other _ _ _ _ (by intro e; injection e with e1; omega)]; assumption))) (first
      | (go_at_call 38
         refine (clone_any A n c B zs _ (by exact S7.out.2.2.2.2.2.2.1.drew) (by simp; omega) hn2).mono ?_
         rintro e w8 ⟨⟨A8, n8, c8, rfl, hown8⟩, hb8⟩
         have S8 : Hid (CSt W bw b9 h f who A n c B zs A2 c2 w8) := Lib.hid (by exact S7.out.below ((Below.refl _ w7).drew.trans hb8) hB)
         have HO8 : Hid (w8.ownsRow W.heap.size 3 1 (.slice A8 n8 c8) n8 (ints zs)) := Lib.hid (own_mono hown8 (by simp; omega))
         have k80 : w8.cell? ⟨W.heap.size, 0, none⟩ = some (.int .i64 h) := S8.out.2.2.1.cell 0
         have k81 : w8.cell? ⟨W.heap.size, 1, none⟩ = some (.int .i64 f) := S8.out.2.2.1.cell 1
         have k82 : w8.cell? ⟨W.heap.size, 2, none⟩ = some (.slice A n c) := S8.out.2.2.1.cell 2
         have x8 := S8.out.2.2.2.1.cell
         have y8 := S8.out.2.2.2.1.frozen
         clear hown8 hb8))
    go_wp2_with (fail)
    have hne8 : (Value.slice A8 n8 c8).ownBlock ≠ some (W.heap.size + 1) := own_blk_ne HO8.out S8.out.2.2.2.1 (by decide)
    refine bodyPost_ret (v := .tuple #[.agg #[.int .i64 h, .int .i64 f, .slice A8 n8 c8], .bool false]) (by simp [results, Tryd.results36, go_sem, x8]) rfl ⟨⟨A8, n8, c8, rfl, ?_⟩, ?_⟩
    · exact ownsRow_setCell_other (ownsRow_setCell_other (ownsRow_setCell_other HO8.out hne8 _) hne8 _) hne8 _
    · exact ((S8.out.2.2.2.2.2.2.2.1.setCell (by simp) _).setCell (by simp) _).setCell (by simp) _

end Go.Proofs.YtohbmkppfbbngaaDoor
