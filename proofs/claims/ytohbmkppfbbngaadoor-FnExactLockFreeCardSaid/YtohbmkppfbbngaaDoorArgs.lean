/-
  What is proved: how a lock that a law takes reads: two numbers and a slice that reads as a list. No program's text is walked.
-/
import Derived.Test.YtohbmkppfbbngaaDoorRows
import Derived.Test.YtohbmkppfbbngaaDoorScan
import Derived.Test.YtohbmkppfbbngaaDoorPick
import Derived.WalkKit
import Derived.ProofKit
import Derived.OpenShut
import Derived.ChangeOld
import Derived.Lib.SmallJoins
namespace Go.Proofs.YtohbmkppfbbngaaDoor
open Go.ChangeShapes Go.WideShapes Go.ChangeAt Go.RowKit Go.Joins

theorem own : ownKnob Tryd.prog.godebug = none := by kernel_rfl
theorem laidOut : laidOutB Tryd.prog = true := by kernel_rfl

/-- A slice of integers that came in reads as a list. -/
theorem reads_in {H : Type} {enc : TypeId × Value → H} {w : World} {fuel : Nat} {v : Value} {x : DataW H × List MemPlace}
    (h : DataW.trod enc Tryd.prog w 0 (fun _ => true) true fuel 23 [v] = some x) : ∃ A n c zs, v = .slice A n c ∧ n ≤ c ∧ c ≤ maxLen ∧ Reads w w.heap.size 1 A n (ints zs) := by
  rcases open_ints Tryd.underlying23 Tryd.underlying3 (by kernel_rfl) h with ⟨hcs, _⟩ | ⟨a, l, c, zs, hcs, _, hl, hm, hz, _, hcell, _⟩
  · obtain rfl : v = .slice none 0 0 := by simpa using hcs
    exact ⟨none, 0, 0, [], rfl, Nat.le_refl _, Nat.zero_le _, Reads.none_⟩
  · obtain rfl : v = .slice (some a) l c := by simpa using hcs
    have hz' : zs.length = c := by simpa using hz
    refine ⟨some a, l, c, zs.take l, rfl, hl, hm, ?_, fun h0 => ⟨a, rfl, ?_, fun j u hu => ?_⟩⟩
    · simp [ints]; omega
    · have h0 := hcell 0 (by omega)
      have := World.block_lt_of_cell? w (a.add 0) h0
      rwa [block_of_add] at this
    · obtain ⟨z, hz1, rfl⟩ := ints_at hu
      have hj : j < l := by
        have := (List.getElem?_eq_some_iff.1 hz1).1
        rw [List.length_take] at this
        omega
      rw [hcell j (by omega)]
      rw [List.getElem?_take, if_pos hj] at hz1
      rw [List.getD_eq_getElem?_getD, hz1]
      rfl
theorem lock_in {H : Type} {enc : TypeId × Value → H} {W : World} {r : Reach} {b0 : Nat} {v : Value} {d : DataW H} {p : List MemPlace}
    (hv : Value.okWide Tryd.prog W r b0 31 v) (h : DataW.Trod enc Tryd.prog W 0 (fun _ => true) true 31 v d p) :
    ∃ h f A n c zs, v = .agg #[.int .i64 h, .int .i64 f, .slice A n c] ∧ n ≤ c ∧ c ≤ maxLen ∧ Reads W W.heap.size 1 A n (ints zs) ∧ (Lit.int .i64 h).wf = true ∧ (Lit.int .i64 f).wf = true := by
  obtain ⟨v0, v1, v2, y0, y1, y2, m, rfl, rfl, rfl, hy0, hy1, hy2⟩ := open_agg3 Tryd.underlying31 (by kernel_rfl) (by kernel_rfl) hv h
  obtain ⟨a, e0, _, wa⟩ := DataW.trod_int Tryd.underlying3 hy0
  obtain ⟨b, e1, _, wb⟩ := DataW.trod_int Tryd.underlying3 hy1
  obtain ⟨A, n, c, zs, e2, h1, h2, h3⟩ := reads_in hy2
  simp at e0 e1
  subst e0 e1 e2
  exact ⟨a, b, A, n, c, zs, rfl, h1, h2, h3, wa, wb⟩
theorem wf_u8 {n : Int} (h : (Lit.int .u8 n).wf = true) : 0 ≤ n ∧ n ≤ 255 := by
  have := bounds_u8 h
  omega
/-- A code that came in reads as bytes. -/
theorem bytes_in {H : Type} {enc : TypeId × Value → H} {W : World} {r : Reach} {b0 : Nat} {v : Value} {d : DataW H} {p : List MemPlace}
    (hv : Value.okWide Tryd.prog W r b0 22 v) (h : DataW.Trod enc Tryd.prog W 0 (fun _ => true) true 22 v d p) :
    ∃ A n c bs, v = .slice A n c ∧ n ≤ c ∧ c ≤ maxLen ∧ Reads W W.heap.size 1 A n (bys bs) ∧ Bytes bs := by
  obtain ⟨A, n, c, rfl⟩ := okWide_slice Tryd.underlying22 hv
  obtain ⟨fuel, hf⟩ := h
  rcases open_ints Tryd.underlying22 Tryd.underlying5 (by kernel_rfl) hf with ⟨hcs, _⟩ | ⟨a, l, c', zs, hcs, _, hl, hm, hz, _, hcell, hwf⟩
  · simp [Value.cells] at hcs
    obtain ⟨rfl, rfl, rfl⟩ := hcs
    exact ⟨none, 0, 0, [], rfl, Nat.le_refl _, Nat.zero_le _, Reads.none_, fun b hb => by simp at hb⟩
  · simp [Value.cells] at hcs
    obtain ⟨rfl, rfl, rfl⟩ := hcs
    have hz' : zs.length = c := by simpa using hz
    refine ⟨some a, n, c, zs.take n, rfl, hl, hm, ⟨?_, fun h0 => ⟨a, rfl, ?_, fun j u hu => ?_⟩⟩, fun b hb => wf_u8 (hwf b (List.mem_of_mem_take hb))⟩
    · simp [bys]; omega
    · have h1 := hcell 0 (by omega)
      have := World.block_lt_of_cell? W (a.add 0) h1
      rwa [block_of_add] at this
    · unfold bys at hu
      rw [List.getElem?_map] at hu
      have hj : j < n := by
        have := (List.getElem?_eq_some_iff.1 (show (zs.take n)[j]? = some ((zs.take n)[j]?.getD 0) from by
          cases hq : (zs.take n)[j]? with
          | none => rw [hq] at hu; cases hu
          | some z => rfl)).1
        rw [List.length_take] at this
        omega
      rw [List.getElem?_take, if_pos hj] at hu
      rw [hcell j (by omega), List.getD_eq_getElem?_getD]
      cases hq : zs[j]? with
      | none => rw [hq] at hu; cases hu
      | some z => rw [hq] at hu; exact hu
end Go.Proofs.YtohbmkppfbbngaaDoor
