/-
  What is proved: laws.FnLockFair returns true for every code, and nothing that was there changes. Conditions: the code reads as bytes, and the variable errors.errorType holds the handle of the type error.
-/
import Derived.Test.YtohbmkppfbbngaaDoorGives
import Derived.Test.YtohbmkppfbbngaaDoorLockFacts
import Derived.Deep.QuietTactic
import Derived.BigQuiet
import Derived.IntWalk
namespace Go.Proofs.YtohbmkppfbbngaaDoor
open Go.RowKit

/-- The state of the loop at its k-th round: b3 holds the lock that was drawn, b6 the lock that is freed again and again. -/
structure FrSt (w : World) (b3 b6 : Nat) (h f : Int) (zs : List Int) (A1 : Option Addr) (c1 B1 : Nat) (k : Nat) (hk : Int) (A : Option Addr) (c m : Nat) (wr : World) : Prop where
  kx : Blk wr b6 25 #[.int .i64 hk, .int .i64 (f + (k : Int)), .slice A m c]
  ox : wr.ownsRow w.heap.size 3 1 (.slice A m c) m (ints (zs.drop k))
  kl : Blk wr b3 25 #[.int .i64 h, .int .i64 f, .slice A1 zs.length c1]
  rl : Reads wr B1 1 A1 zs.length (ints zs)
  bel : Below w.heap.size w wr
  hv : lvB hk (f + (k : Int)) (zs.drop k) = true
  h0 : 0 ≤ hk
  hm : m = zs.length - k
  hb6 : w.heap.size ≤ b6
  hB1 : B1 ≤ b6
  hne : b3 ≠ b6
section
variable {w : World} {b3 b6 : Nat} {h f : Int} {zs : List Int} {A1 : Option Addr} {c1 B1 : Nat} {k : Nat} {hk : Int} {A : Option Addr} {c m : Nat} {wr wr' : World}
theorem FrSt.below (s : FrSt w b3 b6 h f zs A1 c1 B1 k hk A c m wr) (hb : Below wr.heap.size wr wr') : FrSt w b3 b6 h f zs A1 c1 B1 k hk A c m wr' :=
  ⟨s.kx.below hb s.kx.lt, own_below s.ox hb, s.kl.below hb s.kl.lt, s.rl.below (hb.mono (by have := s.hB1; have := s.kx.lt; omega)), s.bel.trans (hb.mono s.bel.size), s.hv, s.h0, s.hm, s.hb6, s.hB1, s.hne⟩
end

set_option maxRecDepth 100000 in
set_option maxHeartbeats 4000000 in
theorem lawFair_any (A : Option Addr) (n c B : Nat) (bs : List Int) (w : World) (hr : Reads w B 1 A n (bys bs)) (hB : B ≤ w.heap.size) (hb : Bytes bs) (hnc : n ≤ c) (hc : c ≤ maxLen) (hg : Held w) :
    Calls Tryd.prog 3 #[.slice A n c] w fun e w' => e = .returned (.bool true) ∧ Below w.heap.size w w' := by
  have HR := Lib.hid hr
  have HB := Lib.hid hb
  have HG := Lib.hid hg
  clear hr hb hg
  have hc' : c ≤ 9223372036854775807 := by unfold maxLen at hc; omega
  by_cases hn : 1048576 < n
  · go_enter Tryd.func3, Tryd.ntmps3
    go_wp2_with (fail)
    go_ret
    exact ⟨rfl, Below.refl _ _⟩
  go_enter Tryd.func3, Tryd.ntmps3
  go_wp2_with (fail)
  refine (drawValid_any A n c B bs w HR.out hB HB.out hnc hc).mono ?_
  rintro e w1 ⟨h, f, zs, A1, c1, rfl, hown1, hb1, hdb⟩
  have hcap := own_caps hown1
  have HOW := Lib.hid hown1
  have HR1 := Lib.hid (Reads.of_own hown1)
  have HB1 := Lib.hid hb1
  have HD := Lib.hid hdb
  have hz1 : w.heap.size ≤ w1.heap.size := hb1.size
  clear hown1 hb1 hdb
  go_wp2_with (fail)
  refine (implValid_any h f A1 zs.length c1 w1.heap.size zs _ (by exact HR1.out.alloc (Nat.le_refl _) _) (by simp) hcap.1 hcap.2).mono ?_
  rintro e w2 ⟨rfl, hb2⟩
  have hb2' : Below w1.heap.size w1 w2 := ((Below.refl _ _).alloc (Nat.le_refl _) _).trans (hb2.mono (by simp))
  have HO2 := Lib.hid (own_below HOW.out hb2')
  have HX2 := Lib.hid ((Blk.new w1 25 #[.int .i64 h, .int .i64 f, .slice A1 zs.length c1]).below hb2 (by simp))
  have HR2 := Lib.hid (HR1.out.below hb2')
  have HB2 : Hid (Below w.heap.size w w2) := Lib.hid (HB1.out.trans (hb2'.mono (by omega)))
  have x2 := HX2.out.cell
  have hz2 := HX2.out.lt
  clear hb2 hb2' HR1 HB1 HOW
  go_wp2_with (fail)
  refine (specValid_any h f A1 zs.length c1 w1.heap.size zs _ (by exact HR2.out) (by omega) hcap.1 hcap.2).mono ?_
  rintro e w3 ⟨rfl, hb3⟩
  have HO3 := Lib.hid (own_below HO2.out hb3)
  have HX3 := Lib.hid (HX2.out.below hb3 hz2)
  have HR3 := Lib.hid (HR2.out.below (hb3.mono (by omega)))
  have HB3 : Hid (Below w.heap.size w w3) := Lib.hid (HB2.out.trans (hb3.mono (by omega)))
  have x3 := HX3.out.cell
  have hz3 := HX3.out.lt
  clear hb3 HR2 HB2 HX2 x2 HO2
  have hv : (lvB h f zs != lvB h f zs) = false := by simp
  have hv2 : (lvB h f zs == lvB h f zs) = true := by simp
  cases hl : lvB h f zs
  · go_wp2_with (fail)
    go_ret
    exact ⟨rfl, HB3.out⟩
  have hnum := lvB_nums hl
  have hlen : zs.length ≤ 6 := HD.out.2.2.2.2
  have HL := Lib.hid hl
  by_cases h0 : h < 0
  · clear hl
    go_wp2_with (fail)
    go_ret
    exact ⟨rfl, HB3.out⟩
  by_cases h9 : 99 < f + zs.length
  · clear hl
    go_wp2_with (fail)
    go_ret
    exact ⟨rfl, HB3.out⟩
  clear hl hv hv2
  have S3 : FrSt w w1.heap.size w3.heap.size h f zs A1 c1 w1.heap.size 0 h A1 c1 zs.length (w3.alloc (.cells #[.int .i64 h, .int .i64 f, .slice A1 zs.length c1] 25)) :=
    ⟨by simpa using Blk.new w3 25 #[.int .i64 h, .int .i64 f, .slice A1 zs.length c1], by exact World.ownsRow.alloc (own_mono HO3.out (Nat.le_refl _)) _, HX3.out.alloc _, HR3.out.alloc (by omega) _, HB3.out.alloc (by omega) _, by simpa using HL.out, by omega, by omega, by omega, by omega, by omega⟩
  go_wp2_with (fail)
  clear HX3 HR3 HB3 x3 hz3 HO3
  have G1 := HG
  go_loopw [7] (fun i wr => ∃ (k : Nat) (hk : Int) (A' : Option Addr) (c' m' : Nat), k ≤ zs.length ∧ i = .int .i64 k ∧ FrSt w w1.heap.size w3.heap.size h f zs A1 c1 w1.heap.size k hk A' c' m' wr) (fun i _ => zs.length - (intOf i).toNat)
  case atStart => exact ⟨0, h, A1, c1, zs.length, Nat.zero_le _, rfl, S3⟩
  case round =>
    clear S3
    obtain ⟨k, hk, A', c', m', hkl, rfl, Sr⟩ := hrel
    have SR := Lib.hid Sr
    have GR : Hid (Held wr) := Lib.hid (HG.out.below Sr.bel)
    have kx := Sr.kx.cell
    have kl := Sr.kl.cell
    have hltx := Sr.kx.lt
    have hltl := Sr.kl.lt
    have hcr := own_caps Sr.ox
    have hmm : m' ≤ 6 := by have := Sr.hm; omega
    have hnk := lvB_nums Sr.hv
    have hk0 := Sr.h0
    clear Sr
    by_cases hlt : k < zs.length
    · obtain ⟨ad, u, hA, _, hx, hcell⟩ := SR.out.rl.at_ hlt
      obtain ⟨z, hz, rfl⟩ := ints_at hx
      have HZ := Lib.hid hz
      have HAD := Lib.hid hA
      have HE : Hid (zs.drop k = z :: zs.drop (k + 1)) := Lib.hid (by
        rw [List.drop_eq_getElem_cons hlt]
        congr 1
        rw [List.getElem?_eq_getElem hlt] at hz
        exact Option.some.inj hz)
      have HF : Hid (freeP hk (f + (k : Int)) (zs.drop k) hk = ((z, f + (k : Int) + 1, zs.drop (k + 1)), true)) := Lib.hid (by
        have h1 := SR.out.hv
        rw [HE.out] at h1 ⊢
        exact free_next h1 ⟨hk0, hnk.2.1⟩ rfl (by omega))
      have HV1 := Lib.hid (free_lvB HF.out SR.out.hv ⟨hk0, hnk.2.1⟩ (by omega))
      have hz0 : 0 ≤ z := by
        have h1 := (lvB_LV SR.out.hv).2.2.2.2.2.2.1 z (by rw [HE.out]; exact List.mem_cons_self)
        exact h1.1
      clear hz hx hA
      go_wp2_with (fail)
      refine (implFree_r HF.out A' m' c' wr.heap.size _ (by exact Reads.of_own SR.out.ox) (Nat.le_refl _) hcr.1 hcr.2 (by omega) (by exact GR.out)).mono ?_
      rintro e w5 ⟨A5, c5, rfl, hown5, hb5⟩
      have SW := Lib.hid (SR.out.below hb5)
      have HO5 := Lib.hid hown5
      have hc5 : w5.cell? (ad.add k) = some (.int .i64 z) := by
        have h1 := SW.out.rl.2 (by omega)
        obtain ⟨ad', e1, _, h2⟩ := h1
        rw [HAD.out] at e1
        injection e1 with e1
        subst e1
        exact h2 k _ (by unfold ints; rw [List.getElem?_map, HZ.out]; rfl)
      have hadl : (ad.add k).block < w5.heap.size := World.block_lt_of_cell? w5 (ad.add k) hc5
      have k5x := SW.out.kx.cell
      have f5x := SW.out.kx.frozen
      have k5l := SW.out.kl.cell
      have hl5x := SW.out.kx.lt
      have hl5l := SW.out.kl.lt
      have hszw : w.heap.size ≤ wr.heap.size := SR.out.bel.size
      have hsz5 : wr.heap.size ≤ w5.heap.size := hb5.size
      clear hown5 hb5 kx kl hcell
      have tz : (z != z) = false := by simp
      have tf : (f + (k : Int) + 1 != f + (k : Int) + 1) = false := by simp
      have HAD' := HAD.out
      subst HAD'
      go_wp2_with (fail)
      have hw1 : IntKind.i64.wrap (f + (k : Int)) = f + (k : Int) := IntWalk.i64_in _ (by omega)
      have hw2 : IntKind.i64.wrap (f + (k : Int) + 1) = f + (k : Int) + 1 := IntWalk.i64_in _ (by omega)
      go_quiet (fail)
      clear hw1 hw2
      go_wp2_with (fail)
      go_roundw
      case rel =>
        have hO : w5.ownsRow w.heap.size 3 1 (.slice A5 (zs.length - (k + 1)) c5) (zs.length - (k + 1)) (ints (zs.drop (k + 1))) := by
          have h1 := own_mono HO5.out hszw
          rwa [List.length_drop] at h1
        have hnb : (Value.slice A5 (zs.length - (k + 1)) c5).ownBlock ≠ some w3.heap.size := own_blk_ne hO SW.out.kx (by decide)
        have ec : f + ((k + 1 : Nat) : Int) = f + (k : Int) + 1 := by omega
        refine ⟨k + 1, z, A5, c5, zs.length - (k + 1), by omega, by go_num, ?_⟩
        refine ⟨?_, ?_, ?_, ?_, ?_, ?_, hz0, rfl, SW.out.hb6, SW.out.hB1, SW.out.hne⟩
        · rw [ec]
          exact ((((SW.out.kx.alloc _).drewN _).set_ 0 _).set_ 1 _).set_ 2 _
        · repeat (first | with_reducible refine ownsRow_setCell_other ?_ hnb _)
          exact World.ownsRow.alloc hO _
        · repeat (first | with_reducible refine Blk.far ?_ (by exact SW.out.hne) _)
          exact (SW.out.kl.alloc _).drewN _
        · repeat (first | with_reducible refine Reads.setCell ?_ (by exact SW.out.hB1) _)
          exact (SW.out.rl.alloc (by have := SW.out.hB1; omega) _).drewN _
        · repeat (first | with_reducible refine Below.setCell ?_ (by exact SW.out.hb6) _)
          exact below_drewN (SW.out.bel.alloc (by omega) _) _
        · rw [ec]
          exact HV1.out
      case measure => simp [intOf]; omega
    · have hkn : k = zs.length := by omega
      have HN : Hid (zs.drop k = []) := Lib.hid (by rw [hkn]; exact List.drop_length)
      have hm0 : m' = 0 := by have := SR.out.hm; omega
      have HF : Hid (freeP hk (f + (k : Int)) (zs.drop k) hk = ((-1, f + (k : Int), []), true)) := Lib.hid (by
        have h1 := SR.out.hv
        rw [HN.out] at h1 ⊢
        exact free_none h1 ⟨hk0, hnk.2.1⟩ rfl (fun e => e.1 rfl))
      clear hkn hm0
      go_wp2_with (fail)
      refine (implFree_r HF.out A' m' c' wr.heap.size _ (by exact Reads.of_own SR.out.ox) (Nat.le_refl _) hcr.1 hcr.2 (by omega) (by exact GR.out)).mono ?_
      rintro e w5 ⟨A5, c5, rfl, hown5, hb5⟩
      have SW := Lib.hid (SR.out.below hb5)
      clear hown5 hb5 kx kl
      go_wp2_with (fail)
      go_ret
      exact ⟨rfl, SW.out.bel.alloc SW.out.bel.size _⟩
end Go.Proofs.YtohbmkppfbbngaaDoor
