/-
  What is proved: the contracts of impl.LockPlace and spec.LockPlace: both give the place of somebody, the holder's being 0, or -1. Condition: the line reads as a list.
-/
import Derived.Test.YtohbmkppfbbngaaDoorValid
import Derived.Test.YtohbmkppfbbngaaDoorSpecValid
import Derived.Test.YtohbmkppfbbngaaDoorCopy
namespace Go.Proofs.YtohbmkppfbbngaaDoor
open Go.RowKit

theorem ints_one {zs : List Int} : ∀ u ∈ ints zs, u.oneCell' = true := by
  intro u hu
  unfold ints at hu
  obtain ⟨z, _, rfl⟩ := List.mem_map.1 hu
  rfl
theorem ints_append (xs ys : List Int) : ints xs ++ ints ys = ints (xs ++ ys) := by simp [ints]

set_option maxRecDepth 100000 in
set_option maxHeartbeats 1000000 in
theorem implPlace_any (h f who : Int) (A : Option Addr) (n c B : Nat) (zs : List Int) (w : World) (hr : Reads w B 1 A n (ints zs)) (hB : B ≤ w.heap.size) (hn : n ≤ c) (hc : c ≤ maxLen) :
    Calls Tryd.prog 28 #[.agg #[.int .i64 h, .int .i64 f, .slice A n c], .int .i64 who] w fun e w' => e = .returned (.int .i64 (lpI h f zs who)) ∧ Below w.heap.size w w' := by
  have hl := hr.len_ints
  have HL := Lib.hid hl
  have HR := Lib.hid hr
  clear hl hr
  cases hv : lvB h f zs
  · have HP : Hid (lpI h f zs who = -1) := Lib.hid (by unfold lpI; rw [if_neg (by simp [hv])])
    go_enter Tryd.func28, Tryd.ntmps28
    go_wp2_with (fail)
    refine (implValid_any h f A n c B zs _ (HR.out.alloc hB _) (by simp; omega) hn hc).mono ?_
    rintro e w1 ⟨rfl, hb1⟩
    have HB1 : Hid (Below w.heap.size w w1) := Lib.hid (((Below.refl _ _).alloc (Nat.le_refl _) _).trans (hb1.mono (by simp)))
    clear hb1
    go_wp2
    go_ret
    exact ⟨ret_int HP.out.symm, HB1.out⟩
  · have hlen := lvB_len hv
    have hn4 : n ≤ 4 := by rw [← HL.out]; exact hlen
    clear hlen
    by_cases hw : 0 ≤ who ∧ who ≤ 3
    · have tw : inB who 0 3 = true := inB_yes hw
      have HP : Hid (lpI h f zs who = placeI h zs who) := Lib.hid (by unfold lpI; rw [if_pos ⟨hv, hw⟩])
      obtain ⟨i0, hi0, hz0, hz1, hz2⟩ := info_parts int_info
      go_enter Tryd.func28, Tryd.ntmps28
      go_wp2_with (fail)
      refine (implValid_any h f A n c B zs _ (HR.out.alloc hB _) (by simp; omega) hn hc).mono ?_
      rintro e w1 ⟨rfl, hb1⟩
      have HR1 := Lib.hid ((HR.out.alloc hB (.cells #[.int .i64 h, .int .i64 f, .slice A n c] 25)).below (hb1.mono (by simp; omega)))
      have HB1 : Hid (Below w.heap.size w w1) := Lib.hid (((Below.refl _ _).alloc (Nat.le_refl _) _).trans (hb1.mono (by simp)))
      have HK1 := Lib.hid ((Blk.new w 25 #[.int .i64 h, .int .i64 f, .slice A n c]).below hb1 (by simp))
      have hz1 := HK1.out.lt
      have k1 := HK1.out.cell
      clear hb1
      have HO1 : Hid ((w1.alloc (.cells #[.int .i64 h] 3)).ownsRow w.heap.size 3 1 (.slice (some ⟨w1.heap.size, 0, none⟩) 1 1) 1 (ints [h])) := Lib.hid (World.ownsRow_lit w1 #[.int .i64 h] 1 (by omega) (by unfold maxLen; omega) rfl)
      go_wp2_with (first
        | (go_at_call 32; refine (isConsumer_any _ _).mono ?_; rintro e w' ⟨rfl, rfl⟩)
        | (at_builtin
           refine wpList_append_any _ rfl (.tmp 17) (.tmp 19) _ rfl w.heap.size 3 i0 _ 1 8 Tryd.underlying23 hi0 hz0 (by assumption) hz2 rfl (by omega) (.slice (some ⟨w1.heap.size, 0, none⟩) 1 1) 1 (ints [h]) rfl
             HO1.out B A n c (ints zs) rfl (HR1.out.alloc (by omega) _) ints_one (by unfold maxLen; omega) (by omega) (by simp; omega) ?_
           intro v2 w2 hown2 hg2 hat2
           obtain ⟨g2, cap2, rfl, hle2, hlt2⟩ := hown2.form (by omega)
           have HO2 := Lib.hid hown2
           have HB2 : Hid (Below w.heap.size w w2) := Lib.hid ((HB1.out.alloc (by omega) _).grown hg2 (by simp; omega) (by simp [Value.ownBlock]; omega))
           clear hown2 hg2 hat2))
      have HA : Hid (ints [h] ++ ints zs = ints (h :: zs)) := Lib.hid (ints_append [h] zs)
      have hm2 : 1 + n ≤ cap2 ∧ cap2 ≤ maxLen := own_caps HO2.out
      go_loop [22] (fun i => ∃ k : Nat, k ≤ 1 + n ∧ i = .int .i64 k ∧ Hid (¬ who ∈ (h :: zs).take k)) (fun i => 1 + n - (intOf i).toNat)
      case atStart => exact ⟨0, Nat.zero_le _, rfl, by simp [Hid]⟩
      case round =>
        obtain ⟨k, hk, rfl, hno⟩ := hrel
        by_cases hlt : k < 1 + n
        · have hcell := HO2.out.cellAt k (by omega)
          rw [HA.out] at hcell
          obtain ⟨z, hz⟩ : ∃ z, (h :: zs)[k]? = some z := ⟨_, List.getElem?_eq_getElem (by have := HL.out; simp; omega)⟩
          have e : (ints (h :: zs))[k]? = some (.int .i64 z) := by unfold ints; rw [List.getElem?_map, hz]; rfl
          rw [e] at hcell
          have HZ := Lib.hid hz
          clear hz e
          by_cases he : z = who
          · have hb : (z == who) = true := by simp [he]
            have HE := Lib.hid he
            clear he
            go_wp2
            go_ret
            exact ⟨ret_int (by rw [HP.out]; unfold placeI; rw [idxI_at (by rw [HZ.out, HE.out]) hno.out]), HB2.out⟩
          · have hb : (z == who) = false := by simp [he]
            go_wp2
            go_round
            case rel => exact ⟨k + 1, by omega, by go_num, Lib.hid fun h1 => he ((take_has HZ.out hno.out).1 h1)⟩
            case measure => simp [intOf]; omega
        · go_wp2
          go_ret
          exact ⟨ret_int (by rw [HP.out]; unfold placeI; rw [idxI_none hno.out (by have := HL.out; simp; omega)]), HB2.out⟩
    · have tw : inB who 0 3 = false := inB_no hw
      have HP : Hid (lpI h f zs who = -1) := Lib.hid (by unfold lpI; rw [if_neg (fun hh => hw hh.2)])
      go_enter Tryd.func28, Tryd.ntmps28
      go_wp2_with (fail)
      refine (implValid_any h f A n c B zs _ (HR.out.alloc hB _) (by simp; omega) hn hc).mono ?_
      rintro e w1 ⟨rfl, hb1⟩
      have HB1 : Hid (Below w.heap.size w w1) := Lib.hid (((Below.refl _ _).alloc (Nat.le_refl _) _).trans (hb1.mono (by simp)))
      clear hb1
      go_wp2_with (go_at_call 32; refine (isConsumer_any _ _).mono ?_; rintro e w' ⟨rfl, rfl⟩)
      go_ret
      exact ⟨ret_int HP.out.symm, HB1.out⟩

end Go.Proofs.YtohbmkppfbbngaaDoor
