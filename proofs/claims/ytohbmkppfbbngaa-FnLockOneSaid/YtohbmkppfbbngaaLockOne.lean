/-
  What is proved: laws.FnLockOne returns true for every code, and nothing that was there changes. Condition: the code reads as bytes.
-/
import Derived.Test.YtohbmkppfbbngaaDrawn
namespace Go.Proofs.Ytohbmkppfbbngaa
open Go.RowKit

theorem idxI_range {xs : List Int} {x : Int} : -1 ≤ idxI xs x ∧ idxI xs x < xs.length ∧ (0 ≤ idxI xs x → x ∈ xs) := by
  unfold idxI
  split
  · rename_i hm
    exact ⟨by omega, by have := List.idxOf_lt_length_of_mem hm; omega, fun _ => hm⟩
  · exact ⟨by omega, by omega, fun h => by omega⟩
theorem idxI_inj {xs : List Int} {x y : Int} (h : 0 ≤ idxI xs x) (e : idxI xs y = idxI xs x) : x = y := by
  have hx := idxI_range.2.2 h
  have hy : y ∈ xs := idxI_range.2.2 (by rw [e]; exact h)
  unfold idxI at e
  rw [if_pos hx, if_pos hy] at e
  have e' : xs.idxOf y = xs.idxOf x := by omega
  have h1 := List.getElem_idxOf (List.idxOf_lt_length_of_mem hx)
  have h2 := List.getElem_idxOf (List.idxOf_lt_length_of_mem hy)
  rw [← h1, ← h2]
  simp only [e']
theorem lpI_valid {h f who : Int} {zs : List Int} (hv : lvB h f zs = true) (hw : 0 ≤ who ∧ who ≤ 3) : lpI h f zs who = idxI (h :: zs) who := by
  unfold lpI; rw [if_pos ⟨hv, hw⟩]; rfl
theorem lpI_zero {h f who : Int} {zs : List Int} (hv : lvB h f zs = true) (hw : 0 ≤ who ∧ who ≤ 3) (he : who = h) : lpI h f zs who = 0 := by
  rw [lpI_valid hv hw, he]; exact idxI_at (k := 0) rfl (by simp)
theorem lpI_pos {h f who : Int} {zs : List Int} (hv : lvB h f zs = true) (hw : 0 ≤ who ∧ who ≤ 3) (he : ¬ who = h) : lpI h f zs who ≠ 0 := by
  rw [lpI_valid hv hw]
  intro h0
  apply he
  have : idxI (h :: zs) h = 0 := idxI_at (k := 0) rfl (by simp)
  exact idxI_inj (xs := h :: zs) (by omega) (by omega)
theorem lpI_bd (h f who : Int) (zs : List Int) (hl : zs.length ≤ 6) : -1 ≤ lpI h f zs who ∧ lpI h f zs who ≤ 7 := by
  unfold lpI
  split
  · have := idxI_range (xs := h :: zs) (x := who)
    unfold placeI
    simp only [List.length_cons] at this
    omega
  · omega
theorem lpI_inj {h f a b : Int} {zs : List Int} (hv : lvB h f zs = true) (ha : 0 ≤ a ∧ a ≤ 3) (hb : 0 ≤ b ∧ b ≤ 3) (hp : 0 ≤ lpI h f zs a) (hne : b < a) : lpI h f zs b ≠ lpI h f zs a := by
  rw [lpI_valid hv ha] at hp ⊢
  rw [lpI_valid hv hb]
  intro e
  have := idxI_inj hp e
  omega
def cnt (h : Int) (k : Nat) : Int := if 0 ≤ h ∧ h < k then 1 else 0
theorem cnt_bd (h : Int) (k : Nat) : 0 ≤ cnt h k ∧ cnt h k ≤ 1 := by unfold cnt; split <;> omega
theorem cnt_hit {h : Int} {k : Nat} (e : (k : Int) = h) : cnt h (k + 1) = cnt h k + 1 := by
  unfold cnt; rw [if_pos (by omega), if_neg (by omega)]; rfl
theorem cnt_miss {h : Int} {k : Nat} (e : ¬ (k : Int) = h) : cnt h (k + 1) = cnt h k := by
  unfold cnt; by_cases h1 : 0 ≤ h ∧ h < k
  · rw [if_pos (by omega), if_pos h1]
  · rw [if_neg (by omega), if_neg h1]
/-- The state of FnLockOne's loops. -/
def LS (w : World) (b3 B : Nat) (h f : Int) (A : Option Addr) (n c : Nat) (zs : List Int) (wr : World) : Prop :=
  Blk wr b3 27 #[.int .i64 h, .int .i64 f, .slice A n c] ∧ Reads wr B 1 A n (ints zs) ∧ Below w.heap.size w wr ∧ B ≤ wr.heap.size ∧ w.heap.size ≤ b3
theorem LS.below {w : World} {b3 B : Nat} {h f : Int} {A : Option Addr} {n c : Nat} {zs : List Int} {wr w' : World} (s : LS w b3 B h f A n c zs wr) (hb : Below wr.heap.size wr w') : LS w b3 B h f A n c zs w' :=
  ⟨s.1.below hb s.1.lt, s.2.1.below (hb.mono s.2.2.2.1), s.2.2.1.trans (hb.mono s.2.2.1.size), Nat.le_trans s.2.2.2.1 hb.size, s.2.2.2.2⟩

set_option maxHeartbeats 4000000 in
theorem lockOne_any (A : Option Addr) (n c B : Nat) (bs : List Int) (w : World) (hr : Reads w B 1 A n (bys bs)) (hB : B ≤ w.heap.size) (hb : Bytes bs) (hnc : n ≤ c) (hc : c ≤ maxLen) :
    Calls Try.prog 5 #[.slice A n c] w fun e w' => e = .returned (.bool true) ∧ Below w.heap.size w w' := by
  have HR := Lib.hid hr
  have HB := Lib.hid hb
  clear hr hb
  have hc' : c ≤ 9223372036854775807 := by unfold maxLen at hc; omega
  by_cases hn : 1048576 < n
  · go_enter Try.func5, Try.ntmps5
    go_wp2_with (fail)
    go_ret
    exact ⟨rfl, Below.refl _ _⟩
  go_enter Try.func5, Try.ntmps5
  go_wp2_with (fail)
  refine (drawValid_any A n c B bs w HR.out hB HB.out hnc hc).mono ?_
  rintro e w1 ⟨h, f, zs, A1, c1, rfl, hown1, hb1, hdb⟩
  have hcap := own_caps hown1
  have HR1 := Lib.hid (Reads.of_own hown1)
  have HB1 := Lib.hid hb1
  have HD := Lib.hid hdb
  have hz1 : w.heap.size ≤ w1.heap.size := hb1.size
  clear hown1 hb1 hdb
  go_wp2_with (fail)
  refine (implValid_any h f A1 zs.length c1 w1.heap.size zs _ (by exact HR1.out.alloc (Nat.le_refl _) _) (by simp) hcap.1 hcap.2).mono ?_
  rintro e w2 ⟨rfl, hb2⟩
  have HX2 := Lib.hid ((Blk.new w1 27 #[.int .i64 h, .int .i64 f, .slice A1 zs.length c1]).below hb2 (by simp))
  have HR2 := Lib.hid ((HR1.out.alloc (Nat.le_refl _) (.cells #[.int .i64 h, .int .i64 f, .slice A1 zs.length c1] 27)).below (hb2.mono (by simp)))
  have HB2 : Hid (Below w.heap.size w w2) := Lib.hid ((HB1.out.alloc hz1 _).trans (hb2.mono (by simp; omega)))
  have x2 := HX2.out.cell
  have hz2 := HX2.out.lt
  clear hb2 HR1 HB1
  go_wp2_with (fail)
  refine (specValid_any h f A1 zs.length c1 w1.heap.size zs _ (by exact HR2.out) (by omega) hcap.1 hcap.2).mono ?_
  rintro e w3 ⟨rfl, hb3⟩
  have HX3 := Lib.hid (HX2.out.below hb3 hz2)
  have HR3 := Lib.hid (HR2.out.below (hb3.mono (by omega)))
  have HB3 : Hid (Below w.heap.size w w3) := Lib.hid (HB2.out.trans (hb3.mono (by omega)))
  have x3 := HX3.out.cell
  have hz3 := HX3.out.lt
  clear hb3 HR2 HB2 HX2 x2
  have hv : (lvB h f zs != lvB h f zs) = false := by simp
  have hv2 : (lvB h f zs == lvB h f zs) = true := by simp
  cases hl : lvB h f zs
  · go_wp2_with (fail)
    go_ret
    exact ⟨rfl, HB3.out⟩
  · have hnum := lvB_nums hl
    have hlen : zs.length ≤ 6 := HD.out.2.2.2.2
    have HL := Lib.hid hl
    have S3 : LS w w1.heap.size w1.heap.size h f A1 zs.length c1 zs w3 := ⟨HX3.out, HR3.out, HB3.out, by omega, hz1⟩
    clear HX3 HR3 HB3 x3 hz3
    go_wp2_with (fail)
    clear hl hv hv2
    go_loopw [6, 7] (fun s6 s7 wr => ∃ k : Nat, k ≤ 4 ∧ s7 = .int .i64 k ∧ s6 = .int .i64 (cnt h k) ∧ LS w w1.heap.size w1.heap.size h f A1 zs.length c1 zs wr) (fun _ s7 _ => 4 - (intOf s7).toNat)
    case atStart => exact ⟨0, by omega, rfl, by simp [cnt], S3⟩
    case round =>
      clear S3
      obtain ⟨k, hk, rfl, rfl, Sr⟩ := hrel
      have SR := Lib.hid Sr
      have xr := Sr.1.cell
      have cb := cnt_bd h k
      clear Sr
      by_cases hlt : k < 4
      · go_wp2_with (fail)
        refine (implPlace_any h f (k : Int) A1 zs.length c1 w1.heap.size zs _ (by exact SR.out.2.1) SR.out.2.2.2.1 hcap.1 hcap.2).mono ?_
        rintro e w4 ⟨rfl, hb4⟩
        have S4 := Lib.hid (SR.out.below hb4)
        have x4 := S4.out.1.cell
        have pb := lpI_bd h f (k : Int) zs hlen
        clear hb4 SR xr
        generalize hpp : lpI h f zs (k : Int) = p at pb ⊢
        have HPP := Lib.hid hpp
        by_cases he : (k : Int) = h
        · have hp : (p == 0) = true := by rw [← hpp, lpI_zero HL.out (by omega) he]; rfl
          clear hpp
          go_wp2_with (fail)
          go_loopw [9] (fun s9 wr => ∃ j : Nat, j ≤ k ∧ s9 = .int .i64 j ∧ LS w w1.heap.size w1.heap.size h f A1 zs.length c1 zs wr) (fun s9 _ => k - (intOf s9).toNat)
          case atStart => exact ⟨0, by omega, rfl, S4.out⟩
          case round =>
            clear S4 x4
            obtain ⟨j, hj, rfl, Sq⟩ := hrel
            have SQ := Lib.hid Sq
            have xq := Sq.1.cell
            clear Sq
            by_cases hjl : j < k
            · by_cases hp0 : 0 ≤ p
              · have hne : (lpI h f zs (j : Int) == p) = false := by
                  rw [← HPP.out]; simp only [beq_eq_false_iff_ne]
                  exact lpI_inj HL.out (by omega) (by omega) (by rw [HPP.out]; exact hp0) (by omega)
                go_wp2_with (fail)
                refine (implPlace_any h f (j : Int) A1 zs.length c1 w1.heap.size zs _ (by exact SQ.out.2.1) SQ.out.2.2.2.1 hcap.1 hcap.2).mono ?_
                rintro e w5 ⟨rfl, hb5⟩
                have S5 := Lib.hid (SQ.out.below hb5)
                clear hb5 SQ xq
                go_wp2_with (fail)
                go_roundw
                case rel => exact ⟨j + 1, by omega, by go_num, S5.out⟩
                case measure => simp [intOf]; omega
              · go_wp2_with (fail)
                go_roundw
                case rel => exact ⟨j + 1, by omega, by go_num, SQ.out⟩
                case measure => simp [intOf]; omega
            · go_wp2_with (fail)
              go_roundw
              case rel => exact ⟨k + 1, by omega, by go_num, by rw [cnt_hit he], SQ.out⟩
              case measure => simp [intOf]; omega
        · have hp : (p == 0) = false := by rw [← hpp]; simp; exact lpI_pos HL.out (by omega) he
          clear hpp
          go_wp2_with (fail)
          go_loopw [9] (fun s9 wr => ∃ j : Nat, j ≤ k ∧ s9 = .int .i64 j ∧ LS w w1.heap.size w1.heap.size h f A1 zs.length c1 zs wr) (fun s9 _ => k - (intOf s9).toNat)
          case atStart => exact ⟨0, by omega, rfl, S4.out⟩
          case round =>
            clear S4 x4
            obtain ⟨j, hj, rfl, Sq⟩ := hrel
            have SQ := Lib.hid Sq
            have xq := Sq.1.cell
            clear Sq
            by_cases hjl : j < k
            · by_cases hp0 : 0 ≤ p
              · have hne : (lpI h f zs (j : Int) == p) = false := by
                  rw [← HPP.out]; simp only [beq_eq_false_iff_ne]
                  exact lpI_inj HL.out (by omega) (by omega) (by rw [HPP.out]; exact hp0) (by omega)
                go_wp2_with (fail)
                refine (implPlace_any h f (j : Int) A1 zs.length c1 w1.heap.size zs _ (by exact SQ.out.2.1) SQ.out.2.2.2.1 hcap.1 hcap.2).mono ?_
                rintro e w5 ⟨rfl, hb5⟩
                have S5 := Lib.hid (SQ.out.below hb5)
                clear hb5 SQ xq
                go_wp2_with (fail)
                go_roundw
                case rel => exact ⟨j + 1, by omega, by go_num, S5.out⟩
                case measure => simp [intOf]; omega
              · go_wp2_with (fail)
                go_roundw
                case rel => exact ⟨j + 1, by omega, by go_num, SQ.out⟩
                case measure => simp [intOf]; omega
            · go_wp2_with (fail)
              go_roundw
              case rel => exact ⟨k + 1, by omega, by go_num, by rw [cnt_miss he], SQ.out⟩
              case measure => simp [intOf]; omega
      · have hk4 : k = 4 := by omega
        by_cases h0 : 0 ≤ h
        · have hc4 : (cnt h k == 1) = true := by unfold cnt; rw [if_pos (by omega)]; rfl
          clear hk4
          go_wp2_with (fail)
          go_ret
          exact ⟨rfl, SR.out.2.2.1⟩
        · have hc4 : (cnt h k == 1) = false := by unfold cnt; rw [if_neg (by omega)]; rfl
          have hc5 : (cnt h k == 0) = true := by unfold cnt; rw [if_neg (by omega)]; rfl
          clear hk4
          go_wp2_with (fail)
          go_ret
          exact ⟨rfl, SR.out.2.2.1⟩
end Go.Proofs.Ytohbmkppfbbngaa
